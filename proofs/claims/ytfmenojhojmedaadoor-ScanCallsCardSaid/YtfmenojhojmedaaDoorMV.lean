import Derived.Test.YtfmenojhojmedaaDoorMU
import Derived.Test.YtfmenojhojmedaaDoorPAx1
import Derived.Test.YtfmenojhojmedaaDoorC8
import Derived.Test.YtfmenojhojmedaaDoorG0
import Derived.Lib.ItoaMem
import Derived.Lib.ItoaLen
import Derived.Test.YtfmenojhojmedaaDoorMb
import Derived.Test.YtfmenojhojmedaaDoorMd
import Derived.Test.YtfmenojhojmedaaDoorMa
import Derived.Test.YtfmenojhojmedaaDoorMc
/- The laws' helpers: Quote, Valid, the chapter's example; what a loop over a literal's bytes tells. -/
set_option linter.unusedVariables false
set_option linter.unusedSimpArgs false
namespace Go.Proofs.YtfmenojhojmedaaDoorV
open Go.RowKit Go.Lib Go.Proofs.YtfmenojhojmedaaDoorU Go.Proofs.YtfmenojhojmedaaDoorG Go.Proofs.YtfmenojhojmedaaDoorX Go.Proofs.YtfmenojhojmedaaDoor.PR Go.Proofs.YtfmenojhojmedaaDoor.PA
open Go.Proofs.YtfmenojhojmedaaDoorW.PrintWords hiding encs encs_append
/-- A string of bytes. -/
def mk (l : List UInt8) : ByteArray := ⟨l.toArray⟩
theorem mk_list (l : List UInt8) : (mk l).data.toList = l := by simp [mk]
theorem mk_tl (l : List UInt8) : (mk l).toList = l := by rw [toList_data, mk_list]
theorem mk_size (l : List UInt8) : (mk l).size = l.length := by rw [← size_list, mk_list]
theorem list_app (a b : ByteArray) : (a ++ b).data.toList = a.data.toList ++ b.data.toList := by simp
def quotedS (rs : List Nat) : ByteArray := mk (34 :: (qs rs ++ [34]))
theorem quote_val {s : ByteArray} {rs : List Nat} (hs : s.size ≤ 1000000) (h : s.data.toList = encs rs) (hrs : ∀ r ∈ rs, scalar r) : scan_Quote.f s = some (quotedS rs, 0) := by
  have hv : validD s.data.toList = true := by rw [h]; exact validD_encs rs hrs
  unfold scan_Quote.f
  rw [if_pos hs, hv, if_pos rfl, qAll_is h hrs]
  rfl
theorem quote_no {s : ByteArray} (hs : s.size ≤ 1000000) (hv : validD s.data.toList = false) : scan_Quote.f s = some (⟨#[]⟩, 6) := by
  unfold scan_Quote.f
  rw [if_pos hs, hv, if_neg Bool.false_ne_true]
theorem valid_val {s : ByteArray} (hs : s.size ≤ 1000000) : scan_Valid.f s = some (validD s.data.toList) := by
  unfold scan_Valid.f utf8_ValidString.f
  rw [if_pos (by omega)]
  rfl
theorem qs_len : ∀ (rs : List Nat), (∀ r ∈ rs, scalar r) → (qs rs).length ≤ 6 * (encs rs).length
  | [], _ => by simp [qs]
  | r :: rs, h => by
    have h1 := qRune_len r
    have h2 := enc_len (h r (List.mem_cons_self ..))
    have h3 := qs_len rs fun q hq => h q (List.mem_cons_of_mem _ hq)
    rw [qs_cons, encs_cons, List.length_append, List.length_append]
    omega
theorem quoted_size {rs : List Nat} (h : ∀ r ∈ rs, scalar r) : (quotedS rs).size ≤ 6 * (encs rs).length + 2 := by
  have := qs_len rs h
  unfold quotedS
  rw [mk_size]
  simp
  omega
theorem unq_quoted {rs : List Nat} (h : ∀ r ∈ rs, scalar r) (t : ByteArray) (hs : (quotedS rs ++ t).size ≤ 1000000) : Ev (fun k => scan_Unquote.f k (quotedS rs ++ t)) (mk (encs rs), ((quotedS rs).size : Int), 0) := by
  have hv := unq_val hs
  have e : (quotedS rs ++ t).data.toList = (34 :: (qs rs ++ [34])) ++ t.data.toList := by rw [list_app]; unfold quotedS; rw [mk_list]
  rw [e, lit_q rs h] at hv
  have hn : (quotedS rs ++ t).size - t.data.toList.length = (quotedS rs).size := by rw [size_list, ByteArray.size_append]; omega
  have hu : UnqAns (quotedS rs ++ t) (.ok (encs rs, t.data.toList)) = (mk (encs rs), ((quotedS rs).size : Int), 0) := by
    show (_, (((quotedS rs ++ t).size - t.data.toList.length : Nat) : Int), _) = _
    rw [hn]
    rfl
  rw [hu] at hv
  exact hv
theorem lives_val : outlawlaw01_lives.f = some true := by kernel_rfl
end Go.Proofs.YtfmenojhojmedaaDoorV
/- Plain lemmas of this session's own: a number's digits, read. -/
set_option linter.unusedVariables false
set_option linter.unusedSimpArgs false
namespace Go.Proofs.YtfmenojhojmedaaDoorV
open Go.RowKit Go.Lib Go.Proofs.YtfmenojhojmedaaDoorG Go.Proofs.YtfmenojhojmedaaDoorX
/-- Nothing that begins with a digit. -/
def NoDigit (l : List UInt8) : Prop := ∀ c t, l = c :: t → c.toNat < 48 ∨ 57 < c.toNat
theorem rd_done {l : List UInt8} (h : NoDigit l) (v : Int) (b : Bool) (i : Nat) : rdLoop l v b i = (v, b, i) := by
  cases l with
  | nil => rfl
  | cons c t => rw [rdLoop, if_pos (h c t rfl)]
theorem dig_nat (u : Nat) (h : u < 10) : (UInt8.ofNat (48 + u)).toNat = 48 + u := by
  rw [UInt8.toNat_ofNat']
  exact Nat.mod_eq_of_lt (by omega)
theorem rd_digits : ∀ (u : Nat), u ≤ 9007199254740991 → ∀ (l : List UInt8) (i : Nat), rdLoop (decDigits u ++ l) 0 false i = rdLoop l (u : Int) false (i + nDigits u) := by
  intro u
  induction u using Nat.strongRecOn with
  | ind u ih =>
    intro hu l i
    by_cases h : u < 10
    · rw [decDigits_one h, nDigits_small h, List.singleton_append, rdLoop, dig_nat u h, if_neg (by omega), if_neg (by simp; omega)]
      congr 1
      omega
    · rw [decDigits, dif_neg h, nDigits_big h, List.append_assoc, ih (u / 10) (by omega) (by omega), List.singleton_append, rdLoop, dig_nat (u % 10) (by omega), if_neg (by omega), if_neg (by simp; omega)]
      congr 1
      omega
theorem head_digits : ∀ (u : Nat), ∃ (c : UInt8) (t : List UInt8), decDigits u = c :: t ∧ 48 ≤ c.toNat ∧ c.toNat ≤ 57 ∧ (c = 48 → u = 0) := by
  intro u
  induction u using Nat.strongRecOn with
  | ind u ih =>
    by_cases h : u < 10
    · refine ⟨UInt8.ofNat (48 + u), [], decDigits_one h, by rw [dig_nat u h]; omega, by rw [dig_nat u h]; omega, fun e => ?_⟩
      have := dig_nat u h
      rw [e] at this
      have h48 : (48 : UInt8).toNat = 48 := rfl
      omega
    · obtain ⟨c, t, e, h1, h2, h3⟩ := ih (u / 10) (by omega)
      refine ⟨c, t ++ [UInt8.ofNat (48 + u % 10)], by rw [decDigits, dif_neg h, e]; rfl, h1, h2, fun hc => ?_⟩
      have := h3 hc
      omega
theorem readR_digits {u : Nat} (hu : u ≤ 9007199254740991) {l : List UInt8} (hl : NoDigit l) (less : Bool) (h0 : less = true → 1 ≤ u) :
    readR (decDigits u ++ l) less = if less = true then (-(u : Int), (nDigits u : Int) + 1, 0) else ((u : Int), (nDigits u : Int), 0) := by
  have hr : rdLoop (decDigits u ++ l) 0 false 0 = ((u : Int), false, nDigits u) := by
    rw [rd_digits u hu l 0, rd_done hl, Nat.zero_add]
  obtain ⟨c, t, e, h1, h2, h3⟩ := head_digits u
  have hpos := nDigits_pos u
  have hh : (decDigits u ++ l).head? = some c := by rw [e]; rfl
  unfold readR
  rw [hr, hh]
  simp only [Option.some.injEq]
  rw [if_neg, if_neg Bool.false_ne_true]
  rintro (h | ⟨hc, h⟩)
  · omega
  · have hz := h3 hc
    subst hz
    rw [nDigits_small (by decide)] at h
    rcases h with h | h
    · omega
    · have := h0 h
      omega
theorem app_list (a b : ByteArray) : (a ++ b).data.toList = a.data.toList ++ b.data.toList := by simp
theorem itoaS_list (n : Int) : (itoaS n).data.toList = itoa n := by simp [itoaS]
theorem itoaS_size (n : Int) : (itoaS n).size = (itoa n).length := by rw [← size_list, itoaS_list]
theorem prefix_minus (t : List UInt8) : trimPrefix (45 :: t) [45] = t := by
  unfold trimPrefix
  have : hasPrefix (45 :: t) [45] = true := by unfold hasPrefix; simp [List.isPrefixOf]
  rw [if_pos this]
  rfl
theorem prefix_none {c : UInt8} {t : List UInt8} (h : c ≠ 45) : trimPrefix (c :: t) [45] = c :: t := by
  unfold trimPrefix
  have : hasPrefix (c :: t) [45] = false := by
    unfold hasPrefix
    have h2 : ((45 : UInt8) == c) = false := beq_eq_false_iff_ne.2 (Ne.symm h)
    simp [List.isPrefixOf, h2]
  rw [this]
  rfl
/-- A number is read from its digits, whatever follows except a digit. -/
theorem readS_num {n : Int} (h0 : -9007199254740991 ≤ n) (h1 : n ≤ 9007199254740991) {b : ByteArray} (hb : NoDigit b.data.toList) : readS (itoaS n ++ b) = (n, ((itoaS n).size : Int), 0) := by
  have hlist : (itoaS n ++ b).data.toList = itoa n ++ b.data.toList := by rw [app_list, itoaS_list]
  have hsize : (itoaS n ++ b).size = (itoa n).length + b.data.toList.length := by rw [← size_list, hlist, List.length_append]
  obtain ⟨u, hu⟩ : ∃ u : Nat, n = (u : Int) ∨ (n = -(u : Int) ∧ 1 ≤ u) := by
    by_cases h : 0 ≤ n
    · exact ⟨n.toNat, .inl (by omega)⟩
    · exact ⟨(-n).toNat, .inr ⟨by omega, by omega⟩⟩
  have hlen := decDigits_length u
  obtain ⟨c, t, e, c1, c2, c3⟩ := head_digits u
  rcases hu with rfl | ⟨rfl, hu1⟩
  · rw [itoa_nonneg] at hlist hsize
    have hbh : behind (itoaS (u : Int) ++ b) = decDigits u ++ b.data.toList := by
      unfold behind
      rw [hlist, e, List.cons_append]
      exact prefix_none (by rintro rfl; exact absurd c1 (by decide))
    unfold readS
    rw [hbh, if_neg (by rw [e]; simp), readR_digits (by omega) hb _ (by rw [hsize, List.length_append]; simp), itoaS_size, itoa_nonneg, hlen]
    rw [hsize, List.length_append]
    simp
  · rw [itoa_neg u hu1] at hlist hsize
    have hbh : behind (itoaS (-(u : Int)) ++ b) = decDigits u ++ b.data.toList := by
      unfold behind
      rw [hlist, List.cons_append]
      exact prefix_minus _
    unfold readS
    rw [hbh, if_neg (by rw [e]; simp), readR_digits (by omega) hb _ (fun _ => hu1), itoaS_size, itoa_neg u hu1, List.length_cons, hlen]
    rw [hsize, List.length_append, List.length_cons]
    have : decide ((decDigits u).length + b.data.toList.length < (decDigits u).length + 1 + b.data.toList.length) = true := decide_eq_true (by omega)
    rw [this, if_pos rfl]
    rfl
end Go.Proofs.YtfmenojhojmedaaDoorV
/- The document's functions of the chapter, over lists: code points. -/
set_option linter.unusedVariables false
set_option linter.unusedSimpArgs false
namespace Go.Proofs.YtfmenojhojmedaaDoorV
open Go.RowKit Go.Lib Go.Proofs.YtfmenojhojmedaaDoorU Go.Proofs.YtfmenojhojmedaaDoorG Go.Proofs.YtfmenojhojmedaaDoorX Go.Proofs.YtfmenojhojmedaaDoor.PB
open Go.Proofs.YtfmenojhojmedaaDoorW.PrintWords hiding encs encs_append
/-- How many bytes, by the first. -/
def wd (c : Nat) : Nat := if c < 128 then 1 else if 192 ≤ c ∧ c < 224 then 2 else if 224 ≤ c ∧ c < 240 then 3 else if 240 ≤ c ∧ c < 248 then 4 else 0
theorem wide_all : ∀ c : Fin 256, outlawref01_wide.f 3 ((c.val : Nat) : Int) = some ((wd c.val : Nat) : Int) := by decide +kernel
theorem wide_ev (c : UInt8) : Ev (fun k => outlawref01_wide.f k (c.toNat : Int)) (wd c.toNat : Int) := Ev.of (fun k => outlawref01_wide.mono _ k) (wide_all ⟨c.toNat, c.toNat_lt⟩)
/-- The bytes behind the first. -/
def tl : Nat → Int → List UInt8 → Option Int
  | 0, r, _ => some r
  | _ + 1, _, [] => none
  | m + 1, r, b :: l => if b.toNat < 128 ∨ 191 < b.toNat then none else tl m (r * 64 + ((b.toNat : Int) - 128)) l
def least (n : Nat) : Int := if n = 2 then 128 else if n = 3 then 2048 else 65536
def fin (n : Nat) : Option Int → Int × Int
  | none => (0, 0)
  | some r => if r < least n ∨ 1114111 < r ∨ (55296 ≤ r ∧ r ≤ 57343) then (0, 0) else (r, (n : Int))
theorem fin_bad {n : Nat} {r : Int} (h : r < least n ∨ 1114111 < r ∨ (55296 ≤ r ∧ r ≤ 57343)) : fin n (some r) = (0, 0) := if_pos h
theorem fin_ok {n : Nat} {r : Int} (h : ¬ (r < least n ∨ 1114111 < r ∨ (55296 ≤ r ∧ r ≤ 57343))) : fin n (some r) = (r, (n : Int)) := if_neg h
theorem least_is (n : Nat) (h : n = 2 ∨ n = 3 ∨ n = 4) : rd ([0, 0, 128, 2048, 65536] : List Int) (n : Int) = least n := by
  rcases h with rfl | rfl | rfl <;> rfl
theorem pt_loop {s : ByteArray} (hs : s.size ≤ 1000000) {n : Nat} (hn : n = 2 ∨ n = 3 ∨ n = 4) : ∀ (m i : Nat) (r : Int), i + m = n → 1 ≤ i → n ≤ s.size → 0 ≤ r → r < 64 ^ (4 - m) → Ev (fun k => outlawref01_point.l0 k s (n : Int) r (i : Int)) (fin n (tl m r (rest s i)))
  | 0, i, r, hi, h1, hle, hr0, hr1 => by
    obtain rfl : i = n := by omega
    refine ⟨1, fun k hk => ?_⟩
    obtain ⟨k, rfl⟩ : ∃ m, k = m + 1 := ⟨k - 1, by omega⟩
    (try dsimp only)
    rw [outlawref01_point.l0, if_neg (by omega), Option.bind_some, if_pos (by omega), if_pos (by simp; omega), least_is i hn]
    rw [show tl 0 r (rest s i) = some r from rfl]
    by_cases c1 : r < least i
    · rw [if_pos c1, fin_bad (.inl c1)]
    rw [if_neg c1]
    by_cases c2 : r > 1114111
    · rw [if_pos c2, fin_bad (.inr (.inl c2))]
    rw [if_neg c2]
    by_cases c3 : r ≥ 55296
    · rw [if_pos c3]
      by_cases c4 : r ≤ 57343
      · rw [if_pos c4, fin_bad (.inr (.inr ⟨c3, c4⟩))]
      · rw [if_neg c4, fin_ok (by omega)]
    · rw [if_neg c3, fin_ok (by omega)]
  | m + 1, i, r, hi, h1, hle, hr0, hr1 => by
    have hm : m + 1 ≤ 3 := by omega
    have hr2 : r < 262144 := by
      have : (64 : Int) ^ (4 - (m + 1)) ≤ 64 ^ 3 := by
        have hp : (64 : Nat) ^ (4 - (m + 1)) ≤ 64 ^ 3 := Nat.pow_le_pow_right (by decide) (by omega)
        exact_mod_cast hp
      have h3 : (64 : Int) ^ 3 = 262144 := by decide
      omega
    cases hr : rest s i with
    | nil => exact absurd (rest_nil hr (by omega)) (by omega)
    | cons b l =>
      obtain ⟨ha2, hb, hl, _⟩ := rest_cons hr
      have hb256 := b.toNat_lt
      have hst : ∀ k, outlawref01_point.l0 (k + 1) s (n : Int) r (i : Int) = if (b.toNat : Int) < 128 then some (0, 0) else if (b.toNat : Int) > 191 then some (0, 0) else outlawref01_point.l0 k s (n : Int) (r * 64 + ((b.toNat : Int) - 128)) ((i + 1 : Nat) : Int) := fun k => by
        have e1 : wrap64 (b.toNat : Int) = (b.toNat : Int) := by unfold wrap64; omega
        have e2 : wrap64 (wrap64 (wrap64 (r * 64) + (b.toNat : Int)) - 128) = r * 64 + ((b.toNat : Int) - 128) := by unfold wrap64; omega
        rw [outlawref01_point.l0, if_pos (by omega), if_pos (by omega), if_pos (by omega), hb, e1, e2, wrap_succ (n := n) (by omega) (by omega)]
      simp only [tl]
      by_cases c1 : b.toNat < 128
      · rw [if_pos (.inl c1)]
        exact Ev.step (f := fun _ => some (0, 0)) (fun k => by rw [hst, if_pos (by omega)]) (Ev.now _)
      by_cases c2 : 191 < b.toNat
      · rw [if_pos (.inr c2)]
        exact Ev.step (f := fun _ => some (0, 0)) (fun k => by rw [hst, if_neg (by omega), if_pos (by omega)]) (Ev.now _)
      · rw [if_neg (by omega), ← hl]
        refine Ev.step (f := fun k => outlawref01_point.l0 k s (n : Int) (r * 64 + ((b.toNat : Int) - 128)) ((i + 1 : Nat) : Int)) (fun k => by rw [hst, if_neg (by omega), if_neg (by omega)]) (pt_loop hs hn m (i + 1) _ (by omega) (by omega) hle (by omega) ?_)
        have hp : (64 : Int) ^ (4 - m) = 64 ^ (4 - (m + 1)) * 64 := by
          rw [← Int.pow_succ]
          congr 1
          omega
        rw [hp]
        omega
/-- A first byte's part of the number. -/
def base (n : Nat) : Int := if n = 2 then 192 else if n = 3 then 224 else 240
theorem and_all : ∀ (c : Fin 256) (n : Fin 5), n.val = wd c.val → 2 ≤ n.val → Go.bits .and .i64 (wrap64 ((c.val : Nat) : Int)) (shr .i64 127 (IntKind.u64.wrap ((n.val : Nat) : Int))) = ((c.val : Nat) : Int) - base n.val ∧ 0 ≤ ((c.val : Nat) : Int) - base n.val ∧ ((c.val : Nat) : Int) - base n.val < 64 := by decide +kernel
def pt : List UInt8 → Int × Int
  | [] => (0, 0)
  | c :: l => if wd c.toNat = 0 ∨ l.length + 1 < wd c.toNat then (0, 0) else if wd c.toNat = 1 then ((c.toNat : Int), 1) else fin (wd c.toNat) (tl (wd c.toNat - 1) ((c.toNat : Int) - base (wd c.toNat)) l)
theorem wd_le (c : Nat) : wd c ≤ 4 := by unfold wd; repeat' split
                                         all_goals omega
theorem point_ev {s : ByteArray} (hs : s.size ≤ 1000000) : Ev (fun k => outlawref01_point.f k s) (pt s.data.toList) := by
  have hout : Ev (fun k => outlawref01_point.j0 k s true) (0, 0) := Ev.step (f := fun _ => some (0, 0)) (fun k => by rw [outlawref01_point.j0, if_pos rfl]) (Ev.now _)
  cases hl : s.data.toList with
  | nil =>
    refine Ev.congr (fun k => ?_) hout
    unfold outlawref01_point.f
    rw [if_pos (by rw [toList_data, hl])]
  | cons c l =>
    have hr : rest s 0 = c :: l := hl
    obtain ⟨ha2, hb, hl1, hsz⟩ := rest_cons hr
    rw [show ((0 : Nat) : Int) = 0 from rfl] at hb
    have hsize : s.size = l.length + 1 := by omega
    obtain ⟨K, hK0⟩ := wide_ev c
    have hK : ∀ k, K ≤ k → outlawref01_wide.f k (c.toNat : Int) = some ((wd c.toNat : Nat) : Int) := hK0
    have hf : ∀ k, K ≤ k → outlawref01_point.f k s = if (wd c.toNat : Int) = 0 then outlawref01_point.j0 k s true else outlawref01_point.j0 k s (decide ((wd c.toNat : Int) > (s.size : Int))) := fun k hk => by
      unfold outlawref01_point.f
      rw [if_neg (by rw [toList_data, hl]; simp), if_pos (by omega), hb, hK k hk, Option.bind_some, Option.bind_some]
    have lift : ∀ (b : Bool) r, (if (wd c.toNat : Int) = 0 then true else decide ((wd c.toNat : Int) > (s.size : Int))) = b → Ev (fun k => outlawref01_point.j0 k s b) r → Ev (fun k => outlawref01_point.f k s) r := by
      rintro b r rfl ⟨K', hK'⟩
      refine ⟨K + K', fun k hk => ?_⟩
      have h := hK' k (by omega)
      (try dsimp only at h ⊢)
      rw [hf k (by omega)]
      by_cases c0 : (wd c.toNat : Int) = 0
      · rw [if_pos c0]; rw [if_pos c0] at h; exact h
      · rw [if_neg c0]; rw [if_neg c0] at h; exact h
    simp only [pt]
    by_cases c1 : wd c.toNat = 0
    · rw [if_pos (.inl c1)]
      exact lift true _ (if_pos (by omega)) hout
    by_cases c2 : l.length + 1 < wd c.toNat
    · rw [if_pos (.inr c2)]
      exact lift true _ (by rw [if_neg (by omega), decide_eq_true (by omega)]) hout
    rw [if_neg (by omega)]
    refine lift false _ (by rw [if_neg (by omega), decide_eq_false (by omega)]) ?_
    have hj : ∀ k, K ≤ k → outlawref01_point.j0 (k + 1) s false = if (wd c.toNat : Int) = 1 then some (wrap64 (c.toNat : Int), 1) else outlawref01_point.l0 k s (wd c.toNat : Int) (Go.bits .and .i64 (wrap64 (c.toNat : Int)) (shr .i64 127 (IntKind.u64.wrap (wd c.toNat : Int)))) 1 := fun k hk => by
      have e0 : 0 ≤ IntKind.u64.wrap ((wd c.toNat : Nat) : Int) := by rw [IntKind.wrap_u64]; omega
      rw [outlawref01_point.j0, if_neg Bool.false_ne_true, if_pos (by omega), hb, hK k hk, Option.bind_some, if_pos e0]
    by_cases c3 : wd c.toNat = 1
    · rw [if_pos c3]
      refine ⟨K + 1, fun k hk => ?_⟩
      obtain ⟨k, rfl⟩ : ∃ m, k = m + 1 := ⟨k - 1, by omega⟩
      have e1 : wrap64 (c.toNat : Int) = (c.toNat : Int) := by have := c.toNat_lt; unfold wrap64; omega
      (try dsimp only)
      rw [hj k (by omega), if_pos (by omega), e1]
    · rw [if_neg c3]
      have h4 := wd_le c.toNat
      have hand := and_all ⟨c.toNat, c.toNat_lt⟩ ⟨wd c.toNat, by omega⟩ rfl (by simp only; omega)
      simp only at hand
      have hlp := pt_loop hs (n := wd c.toNat) (by omega) (wd c.toNat - 1) 1 ((c.toNat : Int) - base (wd c.toNat)) (by omega) (by omega) (by omega) hand.2.1 (by
        have hp : (64 : Int) ^ 1 ≤ 64 ^ (4 - (wd c.toNat - 1)) := by
          have hp2 : (64 : Nat) ^ 1 ≤ 64 ^ (4 - (wd c.toNat - 1)) := Nat.pow_le_pow_right (by decide) (by omega)
          exact_mod_cast hp2
        have := hand.2.2
        omega)
      rw [hl1] at hlp
      obtain ⟨K', hK'⟩ := hlp
      refine ⟨K + K' + 1, fun k hk => ?_⟩
      obtain ⟨k, rfl⟩ : ∃ m, k = m + 1 := ⟨k - 1, by omega⟩
      have h := hK' k (by omega)
      (try dsimp only at h ⊢)
      rw [hj k (by omega), if_neg (by omega), hand.1]
      exact h
theorem two_tl {b : UInt8} {l : List UInt8} {r : Int} {m : Nat} (h0 : 128 ≤ b.toNat) (h1 : b.toNat ≤ 191) : tl (m + 1) r (b :: l) = tl m (r * 64 + ((b.toNat : Int) - 128)) l := by
  simp only [tl]
  rw [if_neg (by omega)]
theorem wd_2 {c : Nat} (h0 : 192 ≤ c) (h1 : c < 224) : wd c = 2 := by unfold wd; rw [if_neg (by omega), if_pos ⟨h0, h1⟩]
theorem wd_3 {c : Nat} (h0 : 224 ≤ c) (h1 : c < 240) : wd c = 3 := by unfold wd; rw [if_neg (by omega), if_neg (by omega), if_pos ⟨h0, h1⟩]
theorem wd_4 {c : Nat} (h0 : 240 ≤ c) (h1 : c < 248) : wd c = 4 := by unfold wd; rw [if_neg (by omega), if_neg (by omega), if_neg (by omega), if_pos ⟨h0, h1⟩]
theorem pt_at {c : UInt8} {l : List UInt8} {n : Nat} (h : wd c.toNat = n) (h2 : 2 ≤ n) (hl : n ≤ l.length + 1) : pt (c :: l) = fin n (tl (n - 1) ((c.toNat : Int) - base n) l) := by
  subst h
  simp only [pt]
  rw [if_neg (by omega), if_neg (by omega)]
/-- A code point's bytes are told so. -/
theorem pt_enc {r : Nat} (hr : scalar r) (t : List UInt8) : pt (enc r ++ t) = ((r : Int), ((enc r).length : Int)) := by
  rcases scalar_cases hr with k | ⟨k1, k2⟩ | k | ⟨k1, k2⟩
  · obtain ⟨a, e, ha⟩ := enc_1 k
    have hw : wd a.toNat = 1 := by unfold wd; rw [if_pos (by omega)]
    rw [e, List.singleton_append]
    simp only [pt]
    rw [hw, if_neg (by omega), if_pos rfl, ha]
    rfl
  · obtain ⟨a, b, e, ha, hb⟩ := enc_2 k1 k2
    rw [e]
    show pt (a :: b :: t) = _
    rw [pt_at (wd_2 (by omega) (by omega)) (by decide) (by simp), show 2 - 1 = 0 + 1 from rfl, two_tl (by omega) (by omega), show base 2 = 192 from rfl]
    rw [show ((a.toNat : Int) - 192) * 64 + ((b.toNat : Int) - 128) = (r : Int) by omega, show tl 0 (r : Int) t = some (r : Int) from rfl, fin_ok (by rw [show least 2 = 128 from rfl]; unfold scalar at hr; omega)]
    rfl
  · obtain ⟨a, b, c, e, ha, hb, hc⟩ := enc_3 k
    rw [e]
    show pt (a :: b :: c :: t) = _
    rw [pt_at (wd_3 (by omega) (by omega)) (by decide) (by simp), show 3 - 1 = 0 + 1 + 1 from rfl, two_tl (by omega) (by omega), two_tl (by omega) (by omega), show base 3 = 224 from rfl]
    rw [show (((a.toNat : Int) - 224) * 64 + ((b.toNat : Int) - 128)) * 64 + ((c.toNat : Int) - 128) = (r : Int) by omega, show tl 0 (r : Int) t = some (r : Int) from rfl, fin_ok (by rw [show least 3 = 2048 from rfl]; unfold scalar at hr; omega)]
    rfl
  · obtain ⟨a, b, c, d, e, ha, hb, hc, hd⟩ := enc_4 k1 k2
    rw [e]
    show pt (a :: b :: c :: d :: t) = _
    rw [pt_at (wd_4 (by omega) (by omega)) (by decide) (by simp), show 4 - 1 = 0 + 1 + 1 + 1 from rfl, two_tl (by omega) (by omega), two_tl (by omega) (by omega), two_tl (by omega) (by omega), show base 4 = 240 from rfl]
    rw [show ((((a.toNat : Int) - 240) * 64 + ((b.toNat : Int) - 128)) * 64 + ((c.toNat : Int) - 128)) * 64 + ((d.toNat : Int) - 128) = (r : Int) by omega, show tl 0 (r : Int) t = some (r : Int) from rfl, fin_ok (by rw [show least 4 = 65536 from rfl]; unfold scalar at hr; omega)]
    rfl
theorem tl_some {m : Nat} {r x : Int} {b : UInt8} {l : List UInt8} (h : tl (m + 1) r (b :: l) = some x) : 128 ≤ b.toNat ∧ b.toNat ≤ 191 ∧ tl m (r * 64 + ((b.toNat : Int) - 128)) l = some x := by
  simp only [tl] at h
  by_cases c : b.toNat < 128 ∨ 191 < b.toNat
  · rw [if_pos c] at h; simp at h
  · rw [if_neg c] at h
    exact ⟨by omega, by omega, h⟩
theorem fin_cases (n : Nat) (o : Option Int) : fin n o = (0, 0) ∨ ∃ r, o = some r ∧ least n ≤ r ∧ r ≤ 1114111 ∧ ¬ (55296 ≤ r ∧ r ≤ 57343) ∧ fin n o = (r, (n : Int)) := by
  cases o with
  | none => exact .inl rfl
  | some r =>
    by_cases h : r < least n ∨ 1114111 < r ∨ (55296 ≤ r ∧ r ≤ 57343)
    · exact .inl (fin_bad h)
    · exact .inr ⟨r, rfl, by omega, by omega, by omega, fin_ok h⟩
theorem u8_eq {a b : UInt8} (h : a.toNat = b.toNat) : a = b := UInt8.toNat_inj.1 h
/-- What is told is a code point's bytes, or nothing. -/
theorem pt_some (l : List UInt8) : pt l = (0, 0) ∨ ∃ r t, scalar r ∧ l = enc r ++ t := by
  cases l with
  | nil => exact .inl rfl
  | cons c l =>
    by_cases c0 : wd c.toNat = 0 ∨ l.length + 1 < wd c.toNat
    · exact .inl (by simp only [pt]; rw [if_pos c0])
    by_cases c1 : wd c.toNat = 1
    · right
      have hc : c.toNat ≤ 127 := by unfold wd at c1; repeat' split at c1
                                    all_goals omega
      obtain ⟨a, e, ha⟩ := enc_1 hc
      exact ⟨c.toNat, l, by unfold scalar; omega, by rw [e, u8_eq ha]; rfl⟩
    have hw := wd_le c.toNat
    have e := pt_at (c := c) (l := l) rfl (by omega) (by omega)
    rcases fin_cases (wd c.toNat) (tl (wd c.toNat - 1) ((c.toNat : Int) - base (wd c.toNat)) l) with h | ⟨x, hx, h1, h2, h3, _⟩
    · exact .inl (e.trans h)
    right
    have hrange : (wd c.toNat = 2 ∧ 192 ≤ c.toNat ∧ c.toNat < 224) ∨ (wd c.toNat = 3 ∧ 224 ≤ c.toNat ∧ c.toNat < 240) ∨ (wd c.toNat = 4 ∧ 240 ≤ c.toNat ∧ c.toNat < 248) := by
      unfold wd at c0 c1 ⊢
      repeat' split
      all_goals simp_all
    rcases hrange with ⟨w, r1, r2⟩ | ⟨w, r1, r2⟩ | ⟨w, r1, r2⟩
    · rw [w] at hx h1 c0
      match l, hx, c0 with
      | [], hx, c0 => simp at c0
      | b :: t, hx, c0 =>
        obtain ⟨b1, b2, hx⟩ := tl_some hx
        have hx := Option.some.inj hx
        rw [show base 2 = 192 from rfl] at hx
        rw [show least 2 = 128 from rfl] at h1
        obtain ⟨a', b', e', ha, hb⟩ := enc_2 (r := x.toNat) (by omega) (by omega)
        refine ⟨x.toNat, t, by unfold scalar; omega, ?_⟩
        rw [e', u8_eq (a := a') (b := c) (by omega), u8_eq (a := b') (b := b) (by omega)]
        rfl
    · rw [w] at hx h1 c0
      match l, hx, c0 with
      | [], hx, c0 => simp at c0
      | [b], hx, c0 => simp at c0
      | b :: d :: t, hx, c0 =>
        obtain ⟨b1, b2, hx⟩ := tl_some hx
        obtain ⟨d1, d2, hx⟩ := tl_some hx
        have hx := Option.some.inj hx
        rw [show base 3 = 224 from rfl] at hx
        rw [show least 3 = 2048 from rfl] at h1
        obtain ⟨a', b', d', e', ha, hb, hd⟩ := enc_3 (r := x.toNat) (by omega)
        refine ⟨x.toNat, t, by unfold scalar; omega, ?_⟩
        rw [e', u8_eq (a := a') (b := c) (by omega), u8_eq (a := b') (b := b) (by omega), u8_eq (a := d') (b := d) (by omega)]
        rfl
    · rw [w] at hx h1 c0
      match l, hx, c0 with
      | [], hx, c0 => simp at c0
      | [b], hx, c0 => simp at c0
      | [b, d], hx, c0 => simp at c0
      | b :: d :: f :: t, hx, c0 =>
        obtain ⟨b1, b2, hx⟩ := tl_some hx
        obtain ⟨d1, d2, hx⟩ := tl_some hx
        obtain ⟨f1, f2, hx⟩ := tl_some hx
        have hx := Option.some.inj hx
        rw [show base 4 = 240 from rfl] at hx
        rw [show least 4 = 65536 from rfl] at h1
        obtain ⟨a', b', d', f', e', ha, hb, hd, hf⟩ := enc_4 (r := x.toNat) (by omega) (by omega)
        refine ⟨x.toNat, t, by unfold scalar; omega, ?_⟩
        rw [e', u8_eq (a := a') (b := c) (by omega), u8_eq (a := b') (b := b) (by omega), u8_eq (a := d') (b := d) (by omega), u8_eq (a := f') (b := f) (by omega)]
        rfl
theorem pt_none {l : List UInt8} (h : dec l = none) : pt l = (0, 0) := by
  rcases pt_some l with h1 | ⟨r, t, hr, rfl⟩
  · exact h1
  · rw [dec_enc hr t] at h
    simp at h
end Go.Proofs.YtfmenojhojmedaaDoorV
/- The document's Valid and Quote are mine. -/
set_option linter.unusedVariables false
set_option linter.unusedSimpArgs false
namespace Go.Proofs.YtfmenojhojmedaaDoorV
open Go.RowKit Go.Lib Go.Proofs.YtfmenojhojmedaaDoorU Go.Proofs.YtfmenojhojmedaaDoorG Go.Proofs.YtfmenojhojmedaaDoorX Go.Proofs.YtfmenojhojmedaaDoor.PB
open Go.Proofs.YtfmenojhojmedaaDoorW.PrintWords hiding encs encs_append
theorem extract_rest (s : ByteArray) (a : Nat) : (s.extract a s.size).data.toList = s.data.toList.drop a := by
  rw [extract_data, List.take_of_length_le (by rw [List.length_drop, size_list]; exact Nat.le_refl _)]
theorem valid_loop : ∀ (n : Nat) (s : ByteArray), s.size ≤ n → s.size ≤ 1000000 → Ev (fun k => outlawref01_Valid.l0 k s) (validD s.data.toList)
  | n, s, hn, hs => by
    cases hl : s.data.toList with
    | nil =>
      exact Ev.step (f := fun _ => some true) (fun k => by rw [outlawref01_Valid.l0, if_pos (by rw [toList_data, hl])]) (Ev.now _)
    | cons c l =>
      have hsize : s.size = l.length + 1 := by rw [← size_list, hl, List.length_cons]
      obtain ⟨K, hK⟩ := point_ev hs
      have hK : ∀ k, K ≤ k → outlawref01_point.f k s = some (pt s.data.toList) := hK
      rw [hl] at hK
      cases hd : dec (c :: l) with
      | none =>
        rw [pt_none hd] at hK
        rw [validD_none (by simp) hd]
        refine ⟨K + 1, fun k hk => ?_⟩
        obtain ⟨k, rfl⟩ : ∃ m, k = m + 1 := ⟨k - 1, by omega⟩
        (try dsimp only)
        rw [outlawref01_Valid.l0, if_neg (by rw [toList_data, hl]; simp), hK k (by omega), Option.bind_some]
        rfl
      | some y =>
        obtain ⟨p, t⟩ := y
        obtain ⟨r, hr, rfl, hpl⟩ := dec_some hd
        have hen := enc_len hr
        rw [hpl, pt_enc hr t] at hK
        have hlen : s.size = (enc r).length + t.length := by rw [← size_list, hl, hpl, List.length_append]
        obtain ⟨n, rfl⟩ : ∃ m, n = m + 1 := ⟨n - 1, by omega⟩
        have hex : (s.extract (enc r).length s.size).data.toList = t := by
          rw [extract_rest, hl, hpl, List.drop_left]
        have hexs : (s.extract (enc r).length s.size).size = t.length := by rw [← size_list, hex]
        obtain ⟨K', hK'⟩ := valid_loop n (s.extract (enc r).length s.size) (by omega) (by omega)
        rw [hex] at hK'
        rw [hpl, validD_enc hr]
        refine ⟨K + K' + 1, fun k hk => ?_⟩
        obtain ⟨k, rfl⟩ : ∃ m, k = m + 1 := ⟨k - 1, by omega⟩
        have h := hK' k (by omega)
        (try dsimp only at h ⊢)
        rw [outlawref01_Valid.l0, if_neg (by rw [toList_data, hl]; simp), hK k (by omega), Option.bind_some]
        dsimp only
        rw [if_neg (by omega), if_pos (by omega), if_pos (by omega), Int.toNat_natCast]
        exact h
theorem valid_ref {s : ByteArray} (hs : s.size ≤ 1000000) : Ev (fun k => outlawref01_Valid.f k s) (validD s.data.toList) := valid_loop s.size s (Nat.le_refl _) hs
/-- A byte in a literal. -/
def toldL (c : Nat) : List UInt8 := if c < 128 then qRune c else [UInt8.ofNat c]
theorem told_all : ∀ c : Fin 256, outlawref01_told.f 20 ((c.val : Nat) : Int) = some (mk (toldL c.val)) := by decide +kernel
theorem told_len : ∀ c : Fin 256, (toldL c.val).length ≤ 6 := by decide +kernel
theorem told_ev (c : UInt8) : Ev (fun k => outlawref01_told.f k (c.toNat : Int)) (mk (toldL c.toNat)) := Ev.of (fun k => outlawref01_told.mono _ k) (told_all ⟨c.toNat, c.toNat_lt⟩)
def toldAll (l : List UInt8) : List UInt8 := (l.map fun c => toldL c.toNat).flatten
theorem told_app (a b : List UInt8) : toldAll (a ++ b) = toldAll a ++ toldAll b := by simp [toldAll]
theorem told_one (c : UInt8) (h : 128 ≤ c.toNat) : toldL c.toNat = [c] := by
  unfold toldL
  rw [if_neg (by omega), UInt8.ofNat_toNat]
theorem told_enc {r : Nat} (hr : scalar r) : toldAll (enc r) = qRune r := by
  have big : 128 ≤ r → qRune r = enc r := by
    intro h
    unfold qRune
    rw [if_neg (by omega), if_neg (by omega), if_neg (by omega), if_neg (by omega), if_neg (by omega), if_neg (by omega), if_neg (by omega), if_neg (by omega)]
    rfl
  rcases scalar_cases hr with k | ⟨k1, k2⟩ | k | ⟨k1, k2⟩
  · obtain ⟨a, e, ha⟩ := enc_1 k
    rw [e]
    simp only [toldAll, List.map_cons, List.map_nil, List.flatten_cons, List.flatten_nil, List.append_nil, ha]
    unfold toldL
    rw [if_pos (by omega)]
  · rw [big k1]
    obtain ⟨a, b, e, ha, hb⟩ := enc_2 k1 k2
    rw [e]
    simp only [toldAll, List.map_cons, List.map_nil, List.flatten_cons, List.flatten_nil, List.append_nil]
    rw [told_one a (by omega), told_one b (by omega)]
    rfl
  · rw [big (by omega)]
    obtain ⟨a, b, c, e, ha, hb, hc⟩ := enc_3 k
    rw [e]
    simp only [toldAll, List.map_cons, List.map_nil, List.flatten_cons, List.flatten_nil, List.append_nil]
    rw [told_one a (by omega), told_one b (by omega), told_one c (by omega)]
    rfl
  · rw [big (by omega)]
    obtain ⟨a, b, c, d, e, ha, hb, hc, hd⟩ := enc_4 k1 k2
    rw [e]
    simp only [toldAll, List.map_cons, List.map_nil, List.flatten_cons, List.flatten_nil, List.append_nil]
    rw [told_one a (by omega), told_one b (by omega), told_one c (by omega), told_one d (by omega)]
    rfl
theorem told_encs : ∀ (rs : List Nat), (∀ r ∈ rs, scalar r) → toldAll (encs rs) = qs rs
  | [], _ => rfl
  | r :: rs, h => by
    rw [encs_cons, qs_cons, told_app, told_enc (h r (List.mem_cons_self ..)), told_encs rs fun q hq => h q (List.mem_cons_of_mem _ hq)]
/-- Bytes as numbers. -/
def nums8 (l : List UInt8) : List Int := l.map fun c => (c.toNat : Int)
theorem nums8_back (l : List UInt8) : strOfNums (nums8 l) = mk l := by
  apply bytes_ext
  rw [strOfNums_data, mk_list]
  unfold nums8
  rw [List.map_map]
  conv => rhs; rw [← List.map_id l]
  apply List.map_congr_left
  intro c _
  simp
theorem quote_loop {s : ByteArray} (hs : s.size ≤ 1000000) : ∀ (m i : Nat) (acc : List UInt8), (rest s i).length ≤ m → i ≤ s.size → acc.length ≤ 6 * i + 1 → Ev (fun k => outlawref01_Quote.l0 k s (nums8 acc) (i : Int)) (mk (acc ++ toldAll (rest s i) ++ [34]), 0)
  | m, i, acc, hm, hi, hacc => by
    have hnl : (nums8 acc).length = acc.length := by unfold nums8; rw [List.length_map]
    cases hr : rest s i with
    | nil =>
      have := rest_nil hr hi
      refine Ev.step (f := fun _ => some (mk (acc ++ toldAll [] ++ [34]), 0)) (fun k => ?_) (Ev.now _)
      rw [outlawref01_Quote.l0, if_neg (by omega), if_pos (by omega), show nums8 acc ++ [34] = nums8 (acc ++ [34]) by unfold nums8; rw [List.map_append]; rfl, nums8_back]
      simp [toldAll]
    | cons c l =>
      obtain ⟨ha2, hb, hl, _⟩ := rest_cons hr
      rw [hr, List.length_cons] at hm
      obtain ⟨m, rfl⟩ : ∃ q, m = q + 1 := ⟨m - 1, by omega⟩
      have h6 := told_len ⟨c.toNat, c.toNat_lt⟩
      simp only at h6
      obtain ⟨K, hK⟩ := told_ev c
      have hK : ∀ k, K ≤ k → outlawref01_told.f k (c.toNat : Int) = some (mk (toldL c.toNat)) := hK
      obtain ⟨K', hK'⟩ := quote_loop hs m (i + 1) (acc ++ toldL c.toNat) (by rw [hl]; omega) (by omega) (by rw [List.length_append]; omega)
      rw [hl] at hK'
      have e1 : nums8 acc ++ bytesOf (mk (toldL c.toNat)) = nums8 (acc ++ toldL c.toNat) := by
        unfold nums8 bytesOf
        rw [List.map_append, mk_list]
      refine ⟨K + K' + 1, fun k hk => ?_⟩
      obtain ⟨k, rfl⟩ : ∃ m, k = m + 1 := ⟨k - 1, by omega⟩
      have h := hK' k (by omega)
      (try dsimp only at h ⊢)
      rw [outlawref01_Quote.l0, if_pos (by omega), if_pos (by omega), hb, hK k (by omega), Option.bind_some, if_pos (by rw [mk_size]; omega), e1, wrap_succ (n := s.size) (by omega) (by omega)]
      rw [show acc ++ toldAll (c :: l) ++ [34] = acc ++ toldL c.toNat ++ toldAll l ++ [34] by simp [toldAll]]
      exact h
/-- The document's Quote is the program's. -/
theorem quote_ref {s : ByteArray} (hs : s.size ≤ 100000) : ∃ r, scan_Quote.f s = some r ∧ Ev (fun k => outlawref01_Quote.f k s) r := by
  obtain ⟨K, hK⟩ := valid_ref (s := s) (by omega)
  have hK : ∀ k, K ≤ k → outlawref01_Valid.f k s = some (validD s.data.toList) := hK
  cases hv : validD s.data.toList with
  | false =>
    rw [hv] at hK
    refine ⟨_, quote_no (by omega) hv, K, fun k hk => ?_⟩
    (try dsimp only)
    unfold outlawref01_Quote.f
    rw [hK k hk, Option.bind_some]
    rfl
  | true =>
    rw [hv] at hK
    obtain ⟨rs, hrs, hl⟩ := validD_iff _ s.data.toList (Nat.le_refl _) hv
    refine ⟨_, quote_val (by omega) hl hrs, ?_⟩
    obtain ⟨K', hK'⟩ := quote_loop (s := s) (by omega) s.size 0 [34] (by rw [rest_len]; omega) (Nat.zero_le _) (by simp)
    have e : [34] ++ toldAll (rest s 0) ++ [34] = 34 :: (qs rs ++ [34]) := by
      rw [show rest s 0 = s.data.toList from rfl, hl, told_encs rs hrs]
      rfl
    rw [e] at hK'
    refine ⟨K + K', fun k hk => ?_⟩
    have h := hK' k (by omega)
    (try dsimp only at h ⊢)
    unfold outlawref01_Quote.f
    rw [hK k (by omega), Option.bind_some]
    exact (if_pos rfl).trans h
end Go.Proofs.YtfmenojhojmedaaDoorV
/- The document's escape is mine. -/
set_option linter.unusedVariables false
set_option linter.unusedSimpArgs false
namespace Go.Proofs.YtfmenojhojmedaaDoorV
open Go.RowKit Go.Lib Go.Proofs.YtfmenojhojmedaaDoorU Go.Proofs.YtfmenojhojmedaaDoorG Go.Proofs.YtfmenojhojmedaaDoorX Go.Proofs.YtfmenojhojmedaaDoor.PB
open Go.Proofs.YtfmenojhojmedaaDoorW.PrintWords hiding encs encs_append
def hexI (c : UInt8) : Int := match hexV c with | none => -1 | some d => (d : Int)
theorem hex_all : ∀ c : Fin 256, outlawref01_hex.f 4 ((c.val : Nat) : Int) = some (hexI (UInt8.ofNat c.val)) := by decide +kernel
theorem hexref_ev (c : UInt8) : Ev (fun k => outlawref01_hex.f k (c.toNat : Int)) (hexI c) := by
  have h := Ev.of (fun k => outlawref01_hex.mono _ k) (hex_all ⟨c.toNat, c.toNat_lt⟩)
  simp only [UInt8.ofNat_toNat] at h
  exact h
/-- What the document's four tells. -/
def fourA : Rd Nat → Int × Int
  | .error e => (0, e)
  | .ok (n, _) => ((n : Int), 0)
theorem sm {x : Int} (h0 : 0 ≤ x) (h1 : x < 1000000000) : wrap64 x = x := by unfold wrap64; omega
theorem wr16 {n x : Nat} (h : n < 4096) (hx : x < 16) : wrap64 (wrap64 ((n : Int) * 16) + (x : Int)) = ((n * 16 + x : Nat) : Int) := by
  rw [sm (x := (n : Int) * 16) (by omega) (by omega), sm (by omega) (by omega)]
  omega
theorem pow16 {n x i : Nat} (h : n < 16 ^ i) (hx : x < 16) : n * 16 + x < 16 ^ (i + 1) := by
  rw [Nat.pow_succ]
  omega
theorem four_next (k : Nat) (s : ByteArray) {n x : Nat} {y : Int} (j : Int) (h : y = (x : Int)) (h16 : n < 4096) (hx : x < 16) : outlawref01_four.l0 k s (wrap64 (wrap64 ((n : Int) * 16) + y)) j = outlawref01_four.l0 k s ((n * 16 + x : Nat) : Int) j := by
  subst h
  exact congrArg (fun z => outlawref01_four.l0 k s z j) (wr16 h16 hx)
theorem four_loop {s : ByteArray} (hs : s.size ≤ 1000000) : ∀ (d n i : Nat), i + d = 4 → n < 16 ^ i → i ≤ s.size → Ev (fun k => outlawref01_four.l0 k s (n : Int) (i : Int)) (fourA (hexN d n (rest s i))) := by
  intro d
  induction d with
  | zero =>
    intro n i hi hn ha
    obtain rfl : i = 4 := by omega
    refine Ev.step (f := fun _ => some ((n : Int), 0)) (fun k => ?_) (Ev.now _)
    rw [outlawref01_four.l0, if_neg (by omega)]
  | succ d ih =>
    intro n i hi hn ha
    cases hr : rest s i with
    | nil =>
      have := rest_nil hr ha
      refine Ev.step (f := fun _ => some (0, 3)) (fun k => ?_) (Ev.now _)
      rw [outlawref01_four.l0, if_pos (by omega), if_pos (by omega)]
    | cons c l =>
      obtain ⟨ha2, hb, hl, _⟩ := rest_cons hr
      obtain ⟨K, hK⟩ := hexref_ev c
      have hK : ∀ k, K ≤ k → outlawref01_hex.f k (c.toNat : Int) = some (hexI c) := hK
      have hst : ∀ k, K ≤ k → outlawref01_four.l0 (k + 1) s (n : Int) (i : Int) = if hexI c < 0 then some (0, 5) else outlawref01_four.l0 k s (wrap64 (wrap64 ((n : Int) * 16) + hexI c)) ((i + 1 : Nat) : Int) := fun k hk => by
        rw [outlawref01_four.l0, if_pos (by omega), if_neg (by omega), if_pos (by omega), if_pos (by omega), hb, hK k hk, Option.bind_some, Option.bind_some, wrap_succ (n := s.size) (by omega) (by omega)]
      simp only [hexN]
      cases hv : hexV c with
      | none =>
        have he : hexI c = -1 := by unfold hexI; rw [hv]
        refine ⟨K + 1, fun k hk => ?_⟩
        obtain ⟨k, rfl⟩ : ∃ m, k = m + 1 := ⟨k - 1, by omega⟩
        (try dsimp only)
        rw [hst k (by omega), he, if_pos (by decide)]
        rfl
      | some x =>
        have he : hexI c = (x : Int) := by unfold hexI; rw [hv]
        have hx := hexV_lt hv
        have h16 : n < 4096 := Nat.lt_of_lt_of_le hn (Nat.le_trans (Nat.pow_le_pow_right (by decide) (show i ≤ 3 by omega)) (by decide))
        have hneg : ¬ hexI c < 0 := by rw [he]; omega
        obtain ⟨K', hK'⟩ := ih (n * 16 + x) (i + 1) (by clear he; omega) (pow16 hn hx) ha2
        rw [hl] at hK'
        refine ⟨K + K' + 1, fun k hk => ?_⟩
        obtain ⟨k, rfl⟩ : ∃ m, k = m + 1 := ⟨k - 1, by omega⟩
        have hk1 : K ≤ k := by omega
        have hk2 : K' ≤ k := by omega
        have h5 : outlawref01_four.l0 k s ((n * 16 + x : Nat) : Int) ((i + 1 : Nat) : Int) = some (fourA (hexN d (n * 16 + x) l)) := hK' k hk2
        exact (hst k hk1).trans ((if_neg hneg).trans ((four_next k s _ he h16 hx).trans h5))
theorem four_ev {s : ByteArray} (hs : s.size ≤ 1000000) : Ev (fun k => outlawref01_four.f k s) (fourA (hexN 4 0 s.data.toList)) := by
  have h := four_loop hs 4 0 0 rfl (by decide) (Nat.zero_le _)
  have e : rest s 0 = s.data.toList := rfl
  rw [e] at h
  exact h
theorem sm8 {x y : Int} {a : UInt8} (h0 : 0 ≤ y) (h1 : y < 1000000) (h2 : 0 ≤ x) (h3 : x < 256) (h : x + y = (a.toNat : Int)) : (wrap64 (x + y)) % 256 = (a.toNat : Int) := by
  have := a.toNat_lt
  rw [sm (by omega) (by omega), h]
  omega
theorem of1 {x : Int} {a : UInt8} (h1 : x = (a.toNat : Int)) : strOfNums [x] = mk [a] := by
  subst h1
  exact nums8_back [a]
theorem of2 {x y : Int} {a b : UInt8} (h1 : x = (a.toNat : Int)) (h2 : y = (b.toNat : Int)) : strOfNums [x, y] = mk [a, b] := by
  subst h1 h2
  exact nums8_back [a, b]
theorem of3 {x y z : Int} {a b c : UInt8} (h1 : x = (a.toNat : Int)) (h2 : y = (b.toNat : Int)) (h3 : z = (c.toNat : Int)) : strOfNums [x, y, z] = mk [a, b, c] := by
  subst h1 h2 h3
  exact nums8_back [a, b, c]
theorem of4 {x y z u : Int} {a b c d : UInt8} (h1 : x = (a.toNat : Int)) (h2 : y = (b.toNat : Int)) (h3 : z = (c.toNat : Int)) (h4 : u = (d.toNat : Int)) : strOfNums [x, y, z, u] = mk [a, b, c, d] := by
  subst h1 h2 h3 h4
  exact nums8_back [a, b, c, d]
theorem q8 {r q m : Nat} {a : UInt8} (hr : r ≤ 1114111) (h : a.toNat = m + r / q) : (wrap64 ((m : Int) + wrap64 (Int.tdiv (r : Int) (q : Int)))) % 256 = (a.toNat : Int) := by
  have h2 : r / q ≤ r := Nat.div_le_self r q
  have := a.toNat_lt
  rw [(Int.ofNat_tdiv r q).symm]
  generalize r / q = y at h h2
  rw [sm (x := (y : Int)) (by omega) (by omega), sm (by omega) (by omega)]
  omega
theorem m8 {r q : Nat} {a : UInt8} (hr : r ≤ 1114111) (h : a.toNat = 128 + r / q % 64) : (wrap64 (128 + (Int.tmod (wrap64 (Int.tdiv (r : Int) (q : Int))) 64))) % 256 = (a.toNat : Int) := by
  have h2 : r / q ≤ r := Nat.div_le_self r q
  have := a.toNat_lt
  rw [(Int.ofNat_tdiv r q).symm]
  generalize r / q = y at h h2
  rw [sm (x := (y : Int)) (by omega) (by omega), show Int.tmod (y : Int) 64 = ((y % 64 : Nat) : Int) from (Int.ofNat_tmod y 64).symm]
  generalize y % 64 = z at h
  rw [sm (by omega) (by omega)]
  omega
theorem l8 {r : Nat} {a : UInt8} (h : a.toNat = 128 + r % 64) : (wrap64 (128 + (Int.tmod (r : Int) 64))) % 256 = (a.toNat : Int) := by
  have := a.toNat_lt
  rw [show Int.tmod (r : Int) 64 = ((r % 64 : Nat) : Int) from (Int.ofNat_tmod r 64).symm]
  generalize r % 64 = z at h
  rw [sm (by omega) (by omega)]
  omega
theorem enc_val {r : Nat} (hr : scalar r) : outlawref01_encoded.f (r : Int) = some (mk (enc r)) := by
  have hr2 : r ≤ 1114111 := by unfold scalar at hr; omega
  rcases scalar_cases hr with k | ⟨k1, k2⟩ | k | ⟨k1, k2⟩
  · obtain ⟨a, e, ha⟩ := enc_1 k
    rw [e]
    exact (if_pos (by omega)).trans (congrArg some (of1 (by omega)))
  · obtain ⟨a, b, e, ha, hb⟩ := enc_2 k1 k2
    rw [e]
    exact (if_neg (by omega)).trans ((if_pos (by omega)).trans (congrArg some (of2 (q8 (q := 64) (m := 192) hr2 ha) (l8 hb))))
  · obtain ⟨a, b, c, e, ha, hb, hc⟩ := enc_3 k
    rw [e]
    exact (if_neg (by omega)).trans ((if_neg (by omega)).trans ((if_pos (by omega)).trans (congrArg some (of3 (q8 (q := 4096) (m := 224) hr2 ha) (m8 (q := 64) hr2 hb) (l8 hc)))))
  · obtain ⟨a, b, c, d, e, ha, hb, hc, hd⟩ := enc_4 k1 k2
    rw [e]
    exact (if_neg (by omega)).trans ((if_neg (by omega)).trans ((if_neg (by omega)).trans (congrArg some (of4 (q8 (q := 262144) (m := 240) hr2 ha) (m8 (q := 4096) hr2 hb) (m8 (q := 64) hr2 hc) (l8 hd)))))
/-! ### the second half -/
theorem second_fin {s : ByteArray} {high : Int} {k : Nat} {n : Int} {e : Int} (h2 : 2 ≤ s.size) (hf : outlawref01_four.f k (s.extract 2 s.size) = some (n, e)) :
    outlawref01_second.l0 (k + 1) high s (⟨#[92, 117]⟩ : ByteArray) 2 = if e = 0 then (if n < 56320 then some (0, 6) else if n > 57343 then some (0, 6) else some (wrap64 (wrap64 (wrap64 (65536 + wrap64 (wrap64 (high - 55296) * 1024)) + n) - 56320), 0)) else some (0, e) := by
  rw [outlawref01_second.l0, if_neg (by decide), if_pos (by omega), hf, Option.bind_some]
theorem second_step {s : ByteArray} {high : Int} {k i : Nat} {c : UInt8} {l : List UInt8} {x : Int} (hs : s.size ≤ 1000000) (hi : i < 2) (hr : rest s i = c :: l) (hx : bt (⟨#[92, 117]⟩ : ByteArray) (i : Int) = x) :
    outlawref01_second.l0 (k + 1) high s (⟨#[92, 117]⟩ : ByteArray) (i : Int) = if (c.toNat : Int) = x then outlawref01_second.l0 k high s (⟨#[92, 117]⟩ : ByteArray) ((i + 1 : Nat) : Int) else some (0, 6) := by
  obtain ⟨ha2, hb, _, _⟩ := rest_cons hr
  have hz : (⟨#[92, 117]⟩ : ByteArray).size = 2 := rfl
  rw [outlawref01_second.l0, if_pos (by omega), if_neg (by omega), if_pos (by omega), if_pos (by omega), if_pos (by rw [hz]; omega), hb, hx, wrap_succ (n := 2) hi (by omega)]
theorem second_end {s : ByteArray} {high : Int} {k i : Nat} (hi : i < 2) (ha : i ≤ s.size) (hr : rest s i = []) : outlawref01_second.l0 (k + 1) high s (⟨#[92, 117]⟩ : ByteArray) (i : Int) = some (0, 3) := by
  have := rest_nil hr ha
  rw [outlawref01_second.l0, if_pos (by omega), if_pos (by omega)]
theorem second_ev {s : ByteArray} (hs : s.size ≤ 1000000) {n : Nat} (hn : 55296 ≤ n) (hn2 : n < 56320) : Ev (fun k => outlawref01_second.f k (n : Int) s) (fourA (pairL n s.data.toList)) := by
  have hr0 : rest s 0 = s.data.toList := rfl
  cases hl : s.data.toList with
  | nil =>
    rw [show pairL n [] = .error 3 from rfl]
    refine Ev.step (f := fun _ => some (0, 3)) (fun k => ?_) (Ev.now _)
    exact second_end (i := 0) (by decide) (Nat.zero_le _) hl
  | cons c l =>
    obtain ⟨q1, _, q3, _⟩ := rest_cons (hr0.trans hl)
    have hs0 := fun k => second_step (high := (n : Int)) (k := k) hs (i := 0) (by decide) (hr0.trans hl) (x := 92) rfl
    by_cases hc : c ≠ 92
    · rw [show pairL n (c :: l) = .error 6 by simp only [pairL]; rw [if_pos hc]]
      refine Ev.step (f := fun _ => some (0, 6)) (fun k => ?_) (Ev.now _)
      exact (hs0 k).trans (if_neg (nx (x := 92) 92 hc (by decide) rfl))
    obtain rfl : c = 92 := by simpa using hc
    have hs1 := fun k => (hs0 k).trans (if_pos rfl)
    cases h1 : l with
    | nil =>
      rw [show pairL n [92] = .error 3 from rfl]
      refine ⟨2, fun k hk => ?_⟩
      obtain ⟨k, rfl⟩ : ∃ m, k = m + 2 := ⟨k - 2, by omega⟩
      exact (hs1 (k + 1)).trans (second_end (i := 1) (by decide) (by omega) (q3.trans h1))
    | cons d l2 =>
      have hr1 := q3.trans h1
      obtain ⟨p1, _, p3, _⟩ := rest_cons hr1
      have ht0 := fun k => second_step (high := (n : Int)) (k := k) hs (i := 0 + 1) (by decide) hr1 (x := 117) rfl
      by_cases hd : d ≠ 117
      · rw [show pairL n (92 :: d :: l2) = .error 6 by simp only [pairL]; rw [if_neg (by decide), if_pos hd]]
        refine ⟨2, fun k hk => ?_⟩
        obtain ⟨k, rfl⟩ : ∃ m, k = m + 2 := ⟨k - 2, by omega⟩
        exact (hs1 (k + 1)).trans ((ht0 k).trans (if_neg (nx (x := 117) 117 hd (by decide) rfl)))
      obtain rfl : d = 117 := by simpa using hd
      have ht1 := fun k => (ht0 k).trans (if_pos rfl)
      rw [show pairL n (92 :: 117 :: l2) = lowL n l2 from rfl]
      have hex : (s.extract 2 s.size).data.toList = l2 := by
        rw [extract_rest]
        exact p3
      have h4 := four_ev (s := s.extract 2 s.size) (by rw [← size_list, hex]; have := rest_len s 2; rw [show rest s 2 = l2 from p3] at this; omega)
      rw [hex] at h4
      obtain ⟨K, hK⟩ := h4
      have hrun : ∀ k, outlawref01_second.f (k + 3) (n : Int) s = outlawref01_second.l0 (k + 1) (n : Int) s (⟨#[92, 117]⟩ : ByteArray) 2 := fun k => (hs1 (k + 2)).trans (ht1 (k + 1))
      cases hx : hexN 4 0 l2 with
      | error e =>
        have hval : lowL n l2 = .error e := by unfold lowL; rw [hx]
        rw [hval]
        rw [hx] at hK
        have hne : ¬ e = 0 := (hexN_err _ _ _ _ hx).ne
        refine ⟨K + 3, fun k hk => ?_⟩
        obtain ⟨k, rfl⟩ : ∃ m, k = m + 3 := ⟨k - 3, by omega⟩
        have h := hK k (by omega)
        exact (hrun k).trans ((second_fin (by omega) h).trans (if_neg hne))
      | ok y =>
        obtain ⟨m, l4⟩ := y
        rw [hx] at hK
        have hm := (hexN4_lt hx).1
        by_cases hc : m < 56320 ∨ 57343 < m
        · have hval : lowL n l2 = .error 6 := by unfold lowL; rw [hx]; simp only; rw [if_pos hc]
          rw [hval]
          refine ⟨K + 3, fun k hk => ?_⟩
          obtain ⟨k, rfl⟩ : ∃ m, k = m + 3 := ⟨k - 3, by omega⟩
          have h := hK k (by omega)
          refine (hrun k).trans ((second_fin (by omega) h).trans ((if_pos rfl).trans ?_))
          by_cases h1 : (m : Int) < 56320
          · exact if_pos h1
          · exact (if_neg h1).trans (if_pos (by omega))
        · have hval : lowL n l2 = .ok (65536 + (n - 55296) * 1024 + (m - 56320), l4) := by unfold lowL; rw [hx]; simp only; rw [if_neg hc]
          rw [hval]
          refine ⟨K + 3, fun k hk => ?_⟩
          obtain ⟨k, rfl⟩ : ∃ m, k = m + 3 := ⟨k - 3, by omega⟩
          have h := hK k (by omega)
          refine (hrun k).trans ((second_fin (by omega) h).trans ((if_pos rfl).trans ((if_neg (by omega)).trans ((if_neg (by omega)).trans ?_))))
          have : wrap64 (wrap64 (wrap64 (65536 + wrap64 (wrap64 ((n : Int) - 55296) * 1024)) + (m : Int)) - 56320) = ((65536 + (n - 55296) * 1024 + (m - 56320) : Nat) : Int) := by unfold wrap64; omega
          rw [this]
          generalize 65536 + (n - 55296) * 1024 + (m - 56320) = z
          rfl
end Go.Proofs.YtfmenojhojmedaaDoorV
/- The document's escape and Unquote are mine. -/
set_option linter.unusedVariables false
set_option linter.unusedSimpArgs false
namespace Go.Proofs.YtfmenojhojmedaaDoorV
open Go.RowKit Go.Lib Go.Proofs.YtfmenojhojmedaaDoorU Go.Proofs.YtfmenojhojmedaaDoorG Go.Proofs.YtfmenojhojmedaaDoorX Go.Proofs.YtfmenojhojmedaaDoor.PB
open Go.Proofs.YtfmenojhojmedaaDoorW.PrintWords hiding encs encs_append
def shortV (c : UInt8) : Option Nat := if c = 34 ∨ c = 92 ∨ c = 47 then some c.toNat else if c = 98 then some 8 else if c = 102 then some 12 else if c = 110 then some 10 else if c = 114 then some 13 else if c = 116 then some 9 else none
def shortA (c : UInt8) : Int × Bool := match shortV c with | some v => ((v : Int), true) | none => (0, false)
theorem short_all : ∀ c : Fin 256, outlawref01_short.f 4 ((c.val : Nat) : Int) = some (shortA (UInt8.ofNat c.val)) := by decide +kernel
theorem short_ev (c : UInt8) : Ev (fun k => outlawref01_short.f k (c.toNat : Int)) (shortA c) := by
  have h := Ev.of (fun k => outlawref01_short.mono _ k) (short_all ⟨c.toNat, c.toNat_lt⟩)
  simp only [UInt8.ofNat_toNat] at h
  exact h
theorem escL_short {c : UInt8} (l : List UInt8) (h : c ≠ 117) : escL (c :: l) = match shortV c with | some v => .ok (v, l) | none => .error 5 := by
  simp only [escL, shortV]
  by_cases h1 : c = 34 ∨ c = 92 ∨ c = 47
  · rw [if_pos h1, if_pos h1]
  rw [if_neg h1, if_neg h1]
  by_cases h2 : c = 98
  · rw [if_pos h2, if_pos h2]
  rw [if_neg h2, if_neg h2]
  by_cases h3 : c = 102
  · rw [if_pos h3, if_pos h3]
  rw [if_neg h3, if_neg h3]
  by_cases h4 : c = 110
  · rw [if_pos h4, if_pos h4]
  rw [if_neg h4, if_neg h4]
  by_cases h5 : c = 114
  · rw [if_pos h5, if_pos h5]
  rw [if_neg h5, if_neg h5]
  by_cases h6 : c = 116
  · rw [if_pos h6, if_pos h6]
  rw [if_neg h6, if_neg h6, if_neg h]
/-- What the document's escape tells. -/
def escA (n : Nat) : Rd Nat → ByteArray × Int × Int
  | .error e => (⟨#[]⟩, 0, e)
  | .ok (r, t) => (mk (enc r), ((n - t.length : Nat) : Int), 0)
theorem ref_bad {s : ByteArray} (n : Int) : Ev (fun k => outlawref01_escape.j0 k s n true) (⟨#[]⟩, 0, 6) :=
  Ev.step (f := fun _ => some (⟨#[]⟩, 0, 6)) (fun k => by rw [outlawref01_escape.j0, if_pos rfl]) (Ev.now _)
theorem ref_one {s : ByteArray} {n : Nat} (hn : scalar n) (h : n < 55296 ∨ 57343 < n) : Ev (fun k => outlawref01_escape.j0 k s (n : Int) false) (mk (enc n), 6, 0) := by
  refine Ev.step (f := fun _ => some (mk (enc n), 6, 0)) (fun k => ?_) (Ev.now _)
  have e := enc_val hn
  rw [outlawref01_escape.j0, if_neg Bool.false_ne_true]
  by_cases c : (n : Int) < 55296
  · rw [if_pos c, e, Option.bind_some]
  · rw [if_neg c, if_pos (by omega), e, Option.bind_some]
theorem ref_two {s : ByteArray} {n : Nat} (h1 : 55296 ≤ n) (h2 : n < 56320) (hs : s.size ≤ 1000000) (h6 : 6 ≤ s.size) {a : Nat} {t : List UInt8} (ha : a = s.size) (hl : s.data.toList.drop 6 = t) :
    Ev (fun k => outlawref01_escape.j0 k s (n : Int) false) (match pairL n t with | .error e => (⟨#[]⟩, 0, e) | .ok (r, _) => (mk (enc r), 12, 0)) := by
  have hex : (s.extract 6 s.size).data.toList = t := by rw [extract_rest]; exact hl
  obtain ⟨K, hK⟩ := second_ev (s := s.extract 6 s.size) (by rw [← size_list, hex, ← hl, List.length_drop, size_list]; omega) h1 h2
  rw [hex] at hK
  have hst : ∀ k r e, outlawref01_second.f k (n : Int) (s.extract 6 s.size) = some (r, e) → outlawref01_escape.j0 (k + 1) s (n : Int) false = if e = 0 then ((outlawref01_encoded.f r).bind fun t202 => some (t202, 12, 0)) else some (⟨#[]⟩, 0, e) := fun k r e h => by
    rw [outlawref01_escape.j0, if_neg Bool.false_ne_true, if_neg (by omega), if_neg (by omega), if_pos (by omega), h, Option.bind_some]
  cases hp : pairL n t with
  | error e =>
    rw [hp] at hK
    have hne := (pairL_err hp).ne
    refine ⟨K + 1, fun k hk => ?_⟩
    obtain ⟨k, rfl⟩ : ∃ m, k = m + 1 := ⟨k - 1, by omega⟩
    have h : outlawref01_second.f k (n : Int) (s.extract 6 s.size) = some (0, e) := hK k (by omega)
    exact (hst k _ _ h).trans (if_neg hne)
  | ok y =>
    obtain ⟨r, t2⟩ := y
    rw [hp] at hK
    obtain ⟨_, _, _, hsc⟩ := pairL_ok h1 h2 hp
    refine ⟨K + 1, fun k hk => ?_⟩
    obtain ⟨k, rfl⟩ : ∃ m, k = m + 1 := ⟨k - 1, by omega⟩
    have h : outlawref01_second.f k (n : Int) (s.extract 6 s.size) = some ((r : Int), 0) := hK k (by omega)
    refine (hst k _ _ h).trans ((if_pos rfl).trans ?_)
    rw [enc_val hsc]
    rfl
theorem pair_len {n : Nat} (h1 : 55296 ≤ n) (h2 : n < 56320) {t t2 : List UInt8} {r : Nat} (h : pairL n t = .ok (r, t2)) : t.length = t2.length + 6 := by
  match t, h with
  | [], h => simp [pairL] at h
  | [c], h =>
    by_cases hc : c ≠ 92
    · simp [pairL, hc] at h
    · simp [pairL, hc] at h
  | c :: d :: l, h =>
    by_cases hc : c ≠ 92
    · simp [pairL, hc] at h
    by_cases hd : d ≠ 117
    · simp [pairL, hc, hd] at h
    have h' : lowL n l = .ok (r, t2) := by simpa [pairL, hc, hd] using h
    obtain ⟨p, rfl, _, _, hp⟩ := lowL_ok h1 h2 h'
    simp [hp]
    omega
theorem esc_ref {s : ByteArray} (hs : s.size ≤ 1000000) {b : UInt8} {l : List UInt8} (hl : s.data.toList = b :: l) : Ev (fun k => outlawref01_escape.f k s) (escA s.size (escL l)) := by
  have hsz : s.size = l.length + 1 := by rw [← size_list, hl, List.length_cons]
  cases h1 : l with
  | nil =>
    refine ⟨0, fun k _ => ?_⟩
    (try dsimp only)
    unfold outlawref01_escape.f
    rw [if_pos (by rw [hsz, h1]; rfl)]
    rfl
  | cons c t =>
    have hsz2 : s.size = t.length + 2 := by rw [hsz, h1, List.length_cons]
    have hr1 : rest s 1 = c :: t := by unfold rest; rw [hl, h1]; rfl
    obtain ⟨q1, qb, q3, _⟩ := rest_cons hr1
    rw [show ((1 : Nat) : Int) = 1 from rfl] at qb
    by_cases h117 : c ≠ 117
    · obtain ⟨K, hK⟩ := short_ev c
      rw [escL_short t h117]
      have hf : ∀ k, K ≤ k → outlawref01_escape.f k s = if (shortA c).2 = true then some (strOfNums [(shortA c).1], 2, 0) else some (⟨#[]⟩, 0, 5) := fun k hk => by
        have h : outlawref01_short.f k (c.toNat : Int) = some (shortA c) := hK k hk
        unfold outlawref01_escape.f
        rw [if_neg (by omega), if_pos (by omega), qb, if_neg (nx (x := 117) 117 h117 (by decide) rfl), h, Option.bind_some]
      refine ⟨K, fun k hk => (hf k hk).trans ?_⟩
      unfold shortA
      cases hv : shortV c with
      | none => rfl
      | some v =>
        have hsmall : v ≤ 127 := by
          unfold shortV at hv
          repeat' split at hv
          all_goals (simp at hv; try omega)
          all_goals (subst hv; rename_i hh; rcases hh with rfl | rfl | rfl <;> decide)
        obtain ⟨a, e, ha⟩ := enc_1 hsmall
        have h2 : s.size - t.length = 2 := by omega
        show some (strOfNums [(v : Int)], 2, 0) = some (mk (enc v), ((s.size - t.length : Nat) : Int), 0)
        rw [h2, e, of1 (a := a) (by omega)]
        rfl
    · obtain rfl : c = 117 := by simpa using h117
      rw [show escL (117 :: t) = unitL t from rfl]
      have qb2 : bt s 1 = 117 := qb
      have hex : (s.extract 2 s.size).data.toList = t := by
        rw [extract_rest]
        exact q3
      obtain ⟨K, hK⟩ := four_ev (s := s.extract 2 s.size) (by rw [← size_list, hex]; omega)
      rw [hex] at hK
      have hf : ∀ k n e, outlawref01_four.f k (s.extract 2 s.size) = some (n, e) → outlawref01_escape.f k s = if e = 0 then (if n ≥ 56320 then (outlawref01_escape.j0 k s n (decide (n ≤ 57343))) else (outlawref01_escape.j0 k s n false)) else some (⟨#[]⟩, 0, e) := fun k n e h => by
        unfold outlawref01_escape.f
        rw [if_neg (by omega), if_pos (by omega), qb2, if_pos rfl, if_pos (by omega), h, Option.bind_some]
      cases hx : hexN 4 0 t with
      | error e =>
        rw [show unitL t = .error e by unfold unitL; rw [hx]]
        rw [hx] at hK
        have hne := (hexN_err _ _ _ _ hx).ne
        exact ⟨K, fun k hk => (hf k _ _ (hK k hk)).trans (if_neg hne)⟩
      | ok y =>
        obtain ⟨n, l1⟩ := y
        rw [hx] at hK
        obtain ⟨p, hp, hpl, _, _, hlt0⟩ := hexN_ok 4 0 t n l1 hx
        have hlt := (hexN4_lt hx).1
        have hl1 : t.length = l1.length + 4 := by rw [hp, List.length_append]; omega
        have hgo : ∀ b r, (if (n : Int) ≥ 56320 then decide ((n : Int) ≤ 57343) else false) = b → Ev (fun k => outlawref01_escape.j0 k s (n : Int) b) r → Ev (fun k => outlawref01_escape.f k s) r := by
          rintro b r rfl ⟨K', hK'⟩
          refine ⟨K + K', fun k hk => ?_⟩
          have h := hK' k (by omega)
          refine (hf k _ _ (hK k (by omega))).trans ((if_pos rfl).trans ?_)
          by_cases c0 : (n : Int) ≥ 56320
          · rw [if_pos c0]; (try dsimp only at h); rw [if_pos c0] at h; exact h
          · rw [if_neg c0]; (try dsimp only at h); rw [if_neg c0] at h; exact h
        by_cases hm : n < 55296 ∨ 57343 < n
        · rw [show unitL t = .ok (n, l1) by unfold unitL; rw [hx]; simp only; rw [if_pos hm]]
          have h6 : s.size - l1.length = 6 := by omega
          have he : escA s.size (.ok (n, l1)) = (mk (enc n), 6, 0) := by
            show (mk (enc n), ((s.size - l1.length : Nat) : Int), (0 : Int)) = _
            rw [h6]
            rfl
          rw [he]
          refine hgo false _ ?_ (ref_one (by unfold scalar; omega) hm)
          by_cases c0 : (n : Int) ≥ 56320
          · rw [if_pos c0, decide_eq_false (by omega)]
          · rw [if_neg c0]
        · have hu : unitL t = if 56320 ≤ n then .error 6 else pairL n l1 := by unfold unitL; rw [hx]; simp only; rw [if_neg hm]
          by_cases h2 : 56320 ≤ n
          · rw [show unitL t = .error 6 by rw [hu, if_pos h2]]
            exact hgo true _ (by rw [if_pos (by omega), decide_eq_true (by omega)]) (ref_bad _)
          · rw [show unitL t = pairL n l1 by rw [hu, if_neg h2]]
            have hd6 : s.data.toList.drop 6 = l1 := by
              rw [hl, h1, hp]
              show (p ++ l1).drop 4 = l1
              rw [← hpl, List.drop_left]
            have h2ev := ref_two (s := s) (n := n) (by omega) (by omega) hs (by omega) rfl hd6
            refine hgo false _ (by rw [if_neg (by omega)]) ?_
            cases hpp : pairL n l1 with
            | error e => rw [hpp] at h2ev; exact h2ev
            | ok y =>
              obtain ⟨r, t2⟩ := y
              rw [hpp] at h2ev
              have hpl2 := pair_len (by omega) (by omega) hpp
              have h12 : s.size - t2.length = 12 := by omega
              have he : escA s.size (.ok (r, t2)) = (mk (enc r), 12, 0) := by
                show (mk (enc r), ((s.size - t2.length : Nat) : Int), (0 : Int)) = _
                rw [h12]
                rfl
              rw [he]
              exact h2ev
end Go.Proofs.YtfmenojhojmedaaDoorV
/- The document's Unquote is mine. -/
set_option linter.unusedVariables false
set_option linter.unusedSimpArgs false
namespace Go.Proofs.YtfmenojhojmedaaDoorV
open Go.RowKit Go.Lib Go.Proofs.YtfmenojhojmedaaDoorU Go.Proofs.YtfmenojhojmedaaDoorG Go.Proofs.YtfmenojhojmedaaDoorX Go.Proofs.YtfmenojhojmedaaDoor.PB
open Go.Proofs.YtfmenojhojmedaaDoorW.PrintWords hiding encs encs_append
theorem mk_app (a b : List UInt8) : mk a ++ mk b = mk (a ++ b) := by
  apply bytes_ext
  rw [list_app, mk_list, mk_list, mk_list]
theorem refunq_loop {s : ByteArray} (hs : s.size ≤ 1000000) : ∀ (m a : Nat) (acc : List UInt8), (rest s a).length < m → a ≤ s.size → acc.length ≤ 4 * a → Ev (fun k => outlawref01_Unquote.l0 k s (mk acc) (a : Int)) (UnqAns s (unqL m (rest s a) acc))
  | 0, a, acc, hm, _, _ => by omega
  | m + 1, a, acc, hm, ha, hacc => by
    cases hr : rest s a with
    | nil =>
      have := rest_nil hr ha
      rw [show unqL (m + 1) [] acc = .error 3 from rfl]
      refine Ev.step (f := fun _ => some (⟨#[]⟩, 0, 3)) (fun k => ?_) (Ev.now _)
      rw [outlawref01_Unquote.l0, if_neg (by omega)]
    | cons c l =>
      obtain ⟨ha2, hb, hl, hsz⟩ := rest_cons hr
      rw [hr, List.length_cons] at hm
      have hms := mk_size acc
      have hex : (s.extract a s.size).data.toList = c :: l := (extract_rest s a).trans hr
      have hexs : (s.extract a s.size).size = l.length + 1 := by rw [← size_list, hex, List.length_cons]
      have hst : ∀ k, outlawref01_Unquote.l0 (k + 1) s (mk acc) (a : Int) = (if (c.toNat : Int) = 34 then (some (mk acc, ((a + 1 : Nat) : Int), 0)) else (if (c.toNat : Int) < 32 then (some ((⟨#[]⟩ : ByteArray), 0, 5)) else (if (c.toNat : Int) = 92 then ((outlawref01_escape.f k (s.extract a s.size)).bind fun bt203 => (if bt203.2.2 = 0 then (if (mk acc).size + bt203.1.size ≤ 9223372036854775807 then (outlawref01_Unquote.l0 k s (mk acc ++ bt203.1) (wrap64 ((a : Int) + bt203.2.1))) else (none)) else (some ((⟨#[]⟩ : ByteArray), 0, bt203.2.2)))) else ((outlawref01_point.f k (s.extract a s.size)).bind fun bt206 => (if bt206.2 = 0 then (some ((⟨#[]⟩ : ByteArray), 0, 6)) else (if (a : Int) ≤ (wrap64 ((a : Int) + bt206.2)) then (if (wrap64 ((a : Int) + bt206.2)) ≤ (s.size : Int) then (if (mk acc).size + (s.extract a ((wrap64 ((a : Int) + bt206.2)) : Int).toNat).size ≤ 9223372036854775807 then (outlawref01_Unquote.l0 k s (mk acc ++ (s.extract a ((wrap64 ((a : Int) + bt206.2)) : Int).toNat)) (wrap64 ((a : Int) + bt206.2))) else (none)) else (none)) else (none))))))) := fun k => by
        have p1 : (a : Int) < (s.size : Int) := by omega
        have p2 : 0 ≤ (a : Int) := by omega
        have p3 : (a : Int) ≤ (s.size : Int) := by omega
        have p4 := wrap_succ (n := s.size) ha2 (by omega)
        rw [outlawref01_Unquote.l0, if_pos p1, if_pos p2, hb]
        simp only [if_pos p3, Int.toNat_natCast, p4]
      by_cases h34 : c = 34
      · subst h34
        rw [show unqL (m + 1) (34 :: l) acc = .ok (acc, l) from rfl]
        refine Ev.step (f := fun _ => some (mk acc, ((s.size - l.length : Nat) : Int), 0)) (fun k => ?_) (Ev.now _)
        rw [hsz]
        exact (hst k).trans (if_pos rfl)
      have hL : unqL (m + 1) (c :: l) acc = match pieceL (c :: l) with | .error e => .error e | .ok (p, l1) => unqL m l1 (acc ++ p) := by
        simp only [unqL]
        rw [if_neg (by simpa using h34)] <;> rfl
      have hst2 := fun k => (hst k).trans (if_neg (nx (x := 34) 34 h34 (by decide) rfl))
      by_cases h32 : c.toNat < 32
      · rw [show unqL (m + 1) (c :: l) acc = .error 5 by rw [hL]; simp only [pieceL]; rw [if_pos h32]]
        refine Ev.step (f := fun _ => some (⟨#[]⟩, 0, 5)) (fun k => ?_) (Ev.now _)
        exact (hst2 k).trans (if_pos (by omega))
      have hst3 := fun k => (hst2 k).trans (if_neg (by omega))
      by_cases h92 : c = 92
      · subst h92
        have hp : pieceL (92 :: l) = match escL l with | .error e => .error e | .ok (r, l1) => .ok (enc r, l1) := rfl
        have hst4 := fun k => (hst3 k).trans (if_pos rfl)
        obtain ⟨K, hK⟩ := esc_ref (s := s.extract a s.size) (by omega) hex
        cases hq : escL l with
        | error e =>
          rw [show unqL (m + 1) (92 :: l) acc = .error e by rw [hL, hp, hq]]
          rw [hq] at hK
          have hne := (escL_err hq).ne
          refine ⟨K + 1, fun k hk => ?_⟩
          obtain ⟨k, rfl⟩ : ∃ m, k = m + 1 := ⟨k - 1, by omega⟩
          have h : outlawref01_escape.f k (s.extract a s.size) = some (⟨#[]⟩, 0, e) := hK k (by omega)
          refine (hst4 k).trans ?_
          rw [h, Option.bind_some]
          exact if_neg hne
        | ok y =>
          obtain ⟨r, l1⟩ := y
          rw [show unqL (m + 1) (92 :: l) acc = unqL m l1 (acc ++ enc r) by rw [hL, hp, hq]]
          rw [hq] at hK
          obtain ⟨p, hpl, _, hsc, _⟩ := escL_ok hq
          obtain ⟨b1, b2, b3⟩ := rest_back (hl.trans hpl) (by omega)
          have hen := (enc_len hsc).2
          have hlen : l.length = p.length + l1.length := by rw [hpl, List.length_append]
          obtain ⟨K', hK'⟩ := refunq_loop hs m (a + 1 + p.length) (acc ++ enc r) (by rw [b3]; omega) b2 (by rw [List.length_append]; omega)
          rw [b3] at hK'
          have hpos : (s.extract a s.size).size - l1.length = p.length + 1 := by omega
          refine ⟨K + K' + 1, fun k hk => ?_⟩
          obtain ⟨k, rfl⟩ : ∃ m, k = m + 1 := ⟨k - 1, by omega⟩
          have h : outlawref01_escape.f k (s.extract a s.size) = some (mk (enc r), (((s.extract a s.size).size - l1.length : Nat) : Int), 0) := hK k (by omega)
          have h2 := hK' k (by omega)
          rw [hpos] at h
          have hsum : (mk acc).size + (mk (enc r)).size ≤ 9223372036854775807 := by rw [mk_size, mk_size]; omega
          have e1 : wrap64 ((a : Int) + ((p.length + 1 : Nat) : Int)) = ((a + 1 + p.length : Nat) : Int) := by unfold wrap64; omega
          refine (hst4 k).trans ?_
          rw [h, Option.bind_some]
          refine (if_pos rfl).trans ((if_pos hsum).trans ?_)
          rw [mk_app]
          exact (congrArg (fun z => outlawref01_Unquote.l0 k s (mk (acc ++ enc r)) z) e1).trans h2
      · have hst4 := fun k => (hst3 k).trans (if_neg (nx (x := 92) 92 h92 (by decide) rfl))
        have hp : pieceL (c :: l) = match dec (c :: l) with | none => .error 6 | some (p, l1) => .ok (p, l1) := by
          simp only [pieceL]
          rw [if_neg h32, if_neg h92] <;> rfl
        obtain ⟨K, hK⟩ := point_ev (s := s.extract a s.size) (by omega)
        rw [hex] at hK
        cases hd : dec (c :: l) with
        | none =>
          rw [show unqL (m + 1) (c :: l) acc = .error 6 by rw [hL, hp, hd]]
          rw [pt_none hd] at hK
          refine ⟨K + 1, fun k hk => ?_⟩
          obtain ⟨k, rfl⟩ : ∃ m, k = m + 1 := ⟨k - 1, by omega⟩
          have h : outlawref01_point.f k (s.extract a s.size) = some (0, 0) := hK k (by omega)
          refine (hst4 k).trans ?_
          rw [h, Option.bind_some]
          exact if_pos rfl
        | some y =>
          obtain ⟨p, l1⟩ := y
          rw [show unqL (m + 1) (c :: l) acc = unqL m l1 (acc ++ p) by rw [hL, hp, hd]]
          obtain ⟨r, hsc, rfl, hpl⟩ := dec_some hd
          rw [hpl, pt_enc hsc l1] at hK
          obtain ⟨b1, b2, b3⟩ := rest_back (hr.trans hpl) ha
          have hen := enc_len hsc
          have hlen : l.length + 1 = (enc r).length + l1.length := by rw [← List.length_append, ← hpl, List.length_cons]
          obtain ⟨K', hK'⟩ := refunq_loop hs m (a + (enc r).length) (acc ++ enc r) (by rw [b3]; omega) b2 (by rw [List.length_append]; omega)
          rw [b3] at hK'
          have hcut : s.extract a (a + (enc r).length) = mk (enc r) := by
            apply bytes_ext
            rw [mk_list, extract_data, show s.data.toList.drop a = c :: l from hr, hpl, Nat.add_sub_cancel_left, List.take_left]
          refine ⟨K + K' + 1, fun k hk => ?_⟩
          obtain ⟨k, rfl⟩ : ∃ m, k = m + 1 := ⟨k - 1, by omega⟩
          have h : outlawref01_point.f k (s.extract a s.size) = some ((r : Int), ((enc r).length : Int)) := hK k (by omega)
          have h2 := hK' k (by omega)
          have hsum : (mk acc).size + (mk (enc r)).size ≤ 9223372036854775807 := by rw [mk_size, mk_size]; omega
          have g1 : ¬ ((enc r).length : Int) = 0 := by omega
          have g2 : (a : Int) ≤ ((a + (enc r).length : Nat) : Int) := by omega
          have g3 : ((a + (enc r).length : Nat) : Int) ≤ (s.size : Int) := by omega
          have e1 : wrap64 ((a : Int) + ((enc r).length : Int)) = ((a + (enc r).length : Nat) : Int) := by unfold wrap64; omega
          refine (hst4 k).trans ?_
          rw [h, Option.bind_some]
          refine (if_neg g1).trans ?_
          dsimp only
          rw [e1, if_pos g2, if_pos g3, Int.toNat_natCast, hcut, if_pos hsum, mk_app]
          exact h2
theorem refunq_ev {s : ByteArray} (hs : s.size ≤ 1000000) : Ev (fun k => outlawref01_Unquote.f k s) (UnqAns s (litL s.data.toList)) := by
  have h0 : s.data.toList = rest s 0 := rfl
  rw [h0]
  cases hr : rest s 0 with
  | nil =>
    refine ⟨0, fun k _ => ?_⟩
    (try dsimp only)
    unfold outlawref01_Unquote.f
    rw [if_pos (by rw [toList_data, h0, hr])]
    rfl
  | cons c l =>
    obtain ⟨ha2, hb, hl, hsz⟩ := rest_cons hr
    rw [show ((0 : Nat) : Int) = 0 from rfl] at hb
    have hf : ∀ k, outlawref01_Unquote.f k s = if (c.toNat : Int) = 34 then outlawref01_Unquote.l0 k s (⟨#[]⟩ : ByteArray) 1 else some (⟨#[]⟩, 0, 5) := fun k => by
      unfold outlawref01_Unquote.f
      rw [if_neg (by rw [toList_data, h0, hr]; simp), if_pos (by omega), hb]
    by_cases h34 : c = 34
    · subst h34
      rw [show litL (34 :: l) = unqL (l.length + 1) l [] from rfl]
      obtain ⟨K, hK⟩ := refunq_loop hs (l.length + 1) 1 [] (by rw [hl]; omega) ha2 (by simp)
      rw [hl] at hK
      exact ⟨K, fun k hk => (hf k).trans ((if_pos rfl).trans (hK k hk))⟩
    · rw [show litL (c :: l) = .error 5 by simp only [litL]; rw [if_neg h34]]
      exact ⟨0, fun k _ => (hf k).trans (if_neg (nx (x := 34) 34 h34 (by decide) rfl))⟩
end Go.Proofs.YtfmenojhojmedaaDoorV
/- The document's Number and Word are mine. -/
set_option linter.unusedVariables false
set_option linter.unusedSimpArgs false
namespace Go.Proofs.YtfmenojhojmedaaDoorV
open Go.RowKit Go.Lib Go.Proofs.YtfmenojhojmedaaDoorU Go.Proofs.YtfmenojhojmedaaDoorG Go.Proofs.YtfmenojhojmedaaDoorX Go.Proofs.YtfmenojhojmedaaDoor.PB
open Go.Proofs.YtfmenojhojmedaaDoorW.PrintWords hiding encs encs_append
theorem dig_piece : ∀ d : Fin 10, (⟨#[48, 49, 50, 51, 52, 53, 54, 55, 56, 57]⟩ : ByteArray).extract d.val (d.val + 1) = mk [UInt8.ofNat (48 + d.val)] := by decide +kernel
theorem digits_ref : ∀ (u : Nat), u ≤ 9007199254740991 → Ev (fun k => outlawref01_Digits.f k (u : Int)) (mk (decDigits u)) := by
  intro u
  induction u using Nat.strongRecOn with
  | ind u ih =>
    intro hu
    by_cases h : u < 10
    · have e1 : wrap64 ((u : Int) + 1) = ((u + 1 : Nat) : Int) := by unfold wrap64; omega
      have g1 : (u : Int) < 10 := by omega
      have g2 : 0 ≤ (u : Int) := by omega
      have g3 : (u : Int) ≤ ((u + 1 : Nat) : Int) := by omega
      have g4 : ((u + 1 : Nat) : Int) ≤ 10 := by omega
      refine Ev.step (f := fun _ => some (mk (decDigits u))) (fun k => ?_) (Ev.now _)
      rw [outlawref01_Digits.f, if_pos g1, if_pos g2, e1, if_pos g3, if_pos g4, Int.toNat_natCast, Int.toNat_natCast, dig_piece ⟨u, h⟩, decDigits_one h]
    · have e1 : Int.tdiv (u : Int) 10 = ((u / 10 : Nat) : Int) := (Int.ofNat_tdiv u 10).symm
      have e2 : Int.tmod (u : Int) 10 = ((u % 10 : Nat) : Int) := (Int.ofNat_tmod u 10).symm
      have hm : u % 10 < 10 := by omega
      have hle : u / 10 ≤ 9007199254740991 := by omega
      have hlt : u / 10 < u := by omega
      have g1 : ¬ (u : Int) < 10 := by omega
      obtain ⟨K, hK⟩ := ih (u / 10) hlt hle
      have hlen : (decDigits (u / 10)).length ≤ 21 := by
        have := itoa_length_le ((u / 10 : Nat) : Int) (by omega) (by omega)
        rw [itoa_nonneg] at this
        exact this
      have hd : decDigits u = decDigits (u / 10) ++ [UInt8.ofNat (48 + u % 10)] := by rw [decDigits, dif_neg h]
      generalize hq : u / 10 = q at *
      generalize hz : u % 10 = z at *
      have w1 : wrap64 (q : Int) = (q : Int) := by unfold wrap64; omega
      have w2 : wrap64 ((z : Int) + 1) = ((z + 1 : Nat) : Int) := by unfold wrap64; omega
      have g2 : 0 ≤ (z : Int) := by omega
      have g3 : (z : Int) ≤ ((z + 1 : Nat) : Int) := by omega
      have g4 : ((z + 1 : Nat) : Int) ≤ 10 := by omega
      have hsum : (mk (decDigits q)).size + (mk [UInt8.ofNat (48 + z)]).size ≤ 9223372036854775807 := by
        rw [mk_size, mk_size]
        simp only [List.length_cons, List.length_nil]
        clear w1 w2
        omega
      refine ⟨K + 1, fun k hk => ?_⟩
      obtain ⟨k, rfl⟩ : ∃ m, k = m + 1 := ⟨k - 1, by clear w1 w2; omega⟩
      have hkK : K ≤ k := by clear w1 w2; omega
      have h5 : outlawref01_Digits.f k (q : Int) = some (mk (decDigits q)) := hK k hkK
      (try dsimp only)
      rw [outlawref01_Digits.f, if_neg g1, e1, w1, h5, Option.bind_some, e2, if_pos g2, w2, if_pos g3, if_pos g4, Int.toNat_natCast, Int.toNat_natCast, dig_piece ⟨z, hm⟩, if_pos hsum, mk_app, hd]
theorem number_ref (n : Int) : ∃ r, scan_Number.f n = some r ∧ Ev (fun k => outlawref01_Number.f k n) r := by
  have bad : (n < -9007199254740991 ∨ 9007199254740991 < n) → ∃ r, scan_Number.f n = some r ∧ Ev (fun k => outlawref01_Number.f k n) r := by
    intro h
    refine ⟨(⟨#[]⟩, 2), ?_, ?_⟩
    · unfold scan_Number.f
      by_cases h0 : n < -9007199254740991
      · rw [if_pos h0]
      · rw [if_neg h0, if_pos (by omega)]
    · have hj : ∀ k, outlawref01_Number.j0 (k + 1) n true = some (⟨#[]⟩, 2) := fun k => by rw [outlawref01_Number.j0, if_pos rfl]
      refine ⟨1, fun k hk => ?_⟩
      obtain ⟨k, rfl⟩ : ∃ m, k = m + 1 := ⟨k - 1, by omega⟩
      (try dsimp only)
      unfold outlawref01_Number.f
      by_cases h0 : n < -9007199254740991
      · rw [if_pos h0, hj]
      · rw [if_neg h0, decide_eq_true (by omega), hj]
  by_cases h0 : n < -9007199254740991
  · exact bad (.inl h0)
  by_cases h1 : 9007199254740991 < n
  · exact bad (.inr h1)
  have hs : scan_Number.f n = some (itoaS n, 0) := by
    unfold scan_Number.f strconv_FormatInt.f
    rw [if_neg (by omega), if_neg (by omega), if_pos ⟨by omega, by omega, rfl⟩]
    rfl
  refine ⟨_, hs, ?_⟩
  have hf : ∀ k, outlawref01_Number.f k n = outlawref01_Number.j0 k n false := fun k => by
    unfold outlawref01_Number.f
    rw [if_neg h0, decide_eq_false (by omega)]
  by_cases hn : n < 0
  · obtain ⟨u, rfl, hu⟩ : ∃ u : Nat, n = -(u : Int) ∧ 1 ≤ u := ⟨(-n).toNat, by omega, by omega⟩
    obtain ⟨K, hK⟩ := digits_ref u (by omega)
    have hlen : (decDigits u).length ≤ 21 := by
      have := itoa_length_le ((u : Nat) : Int) (by omega) (by omega)
      rw [itoa_nonneg] at this
      exact this
    have hv : (⟨#[45]⟩ : ByteArray) ++ mk (decDigits u) = itoaS (-(u : Int)) := by
      apply bytes_ext
      rw [list_app, mk_list, itoaS_list, itoa_neg u hu]
      rfl
    have hsum : 1 + (mk (decDigits u)).size ≤ 9223372036854775807 := by rw [mk_size]; omega
    refine ⟨K + 1, fun k hk => ?_⟩
    obtain ⟨k, rfl⟩ : ∃ m, k = m + 1 := ⟨k - 1, by omega⟩
    have h5 : outlawref01_Digits.f k (u : Int) = some (mk (decDigits u)) := hK k (by omega)
    have w1 : wrap64 (-(-(u : Int))) = (u : Int) := by unfold wrap64; omega
    (try dsimp only)
    rw [hf, outlawref01_Number.j0, if_neg Bool.false_ne_true, if_pos hn, w1, h5, Option.bind_some, if_pos hsum, hv]
  · obtain ⟨u, rfl⟩ : ∃ u : Nat, n = (u : Int) := ⟨n.toNat, by omega⟩
    obtain ⟨K, hK⟩ := digits_ref u (by omega)
    have hv : mk (decDigits u) = itoaS (u : Int) := by
      apply bytes_ext
      rw [mk_list, itoaS_list, itoa_nonneg]
    refine ⟨K + 1, fun k hk => ?_⟩
    obtain ⟨k, rfl⟩ : ∃ m, k = m + 1 := ⟨k - 1, by omega⟩
    have h5 : outlawref01_Digits.f k (u : Int) = some (mk (decDigits u)) := hK k (by omega)
    (try dsimp only)
    rw [hf, outlawref01_Number.j0, if_neg Bool.false_ne_true, if_neg hn, h5, Option.bind_some, hv]
end Go.Proofs.YtfmenojhojmedaaDoorV
/- The document's Space and Word are mine. -/
set_option linter.unusedVariables false
set_option linter.unusedSimpArgs false
namespace Go.Proofs.YtfmenojhojmedaaDoorV
open Go.RowKit Go.Lib Go.Proofs.YtfmenojhojmedaaDoorU Go.Proofs.YtfmenojhojmedaaDoorG Go.Proofs.YtfmenojhojmedaaDoorX Go.Proofs.YtfmenojhojmedaaDoor.PB
open Go.Proofs.YtfmenojhojmedaaDoorW.PrintWords hiding encs encs_append
def isB (c : UInt8) : Bool := ([9, 10, 13, 32] : List UInt8).contains c
def sp (l : List UInt8) : Nat := (l.takeWhile isB).length
theorem isB_all : ∀ c : Fin 256, isB (UInt8.ofNat c.val) = (((c.val : Nat) : Int) == 9 || ((c.val : Nat) : Int) == 10 || ((c.val : Nat) : Int) == 13 || ((c.val : Nat) : Int) == 32) := by decide +kernel
theorem isB_of (c : UInt8) : isB c = (((c.toNat : Nat) : Int) == 9 || ((c.toNat : Nat) : Int) == 10 || ((c.toNat : Nat) : Int) == 13 || ((c.toNat : Nat) : Int) == 32) := by
  have h := isB_all ⟨c.toNat, c.toNat_lt⟩
  simp only [UInt8.ofNat_toNat] at h
  exact h
theorem space_loop {s : ByteArray} (hs : s.size ≤ 1000000) : ∀ (m i : Nat), (rest s i).length ≤ m → i ≤ s.size → Ev (fun k => outlawref01_Space.l0 k s (i : Int)) (((i + sp (rest s i) : Nat) : Int))
  | m, i, hm, hi => by
    cases hr : rest s i with
    | nil =>
      have := rest_nil hr hi
      refine Ev.step (f := fun _ => some ((i : Nat) : Int)) (fun k => ?_) (Ev.now _)
      rw [outlawref01_Space.l0, if_neg (by omega)]
    | cons c l =>
      obtain ⟨ha2, hb, hl, _⟩ := rest_cons hr
      rw [hr, List.length_cons] at hm
      have p1 : (i : Int) < (s.size : Int) := by omega
      have p2 : 0 ≤ (i : Int) := by omega
      have p4 := wrap_succ (n := s.size) ha2 (by omega)
      have hst : ∀ k, outlawref01_Space.l0 (k + 1) s (i : Int) = if isB c = true then outlawref01_Space.l0 k s ((i + 1 : Nat) : Int) else some (i : Int) := fun k => by
        rw [outlawref01_Space.l0, if_pos p1, if_pos p2, hb, p4, isB_of c]
        by_cases c1 : (c.toNat : Int) = 9
        · rw [if_pos c1, if_pos (by simp [c1])]
        rw [if_neg c1]
        by_cases c2 : (c.toNat : Int) = 10
        · rw [if_pos c2, if_pos (by simp [c2])]
        rw [if_neg c2]
        by_cases c3 : (c.toNat : Int) = 13
        · rw [if_pos c3, if_pos (by simp [c3])]
        rw [if_neg c3]
        by_cases c4 : (c.toNat : Int) = 32
        · rw [if_pos c4, if_pos (by simp [c4])]
        rw [if_neg c4, beq_eq_false_iff_ne.2 c1, beq_eq_false_iff_ne.2 c2, beq_eq_false_iff_ne.2 c3, beq_eq_false_iff_ne.2 c4]
        rfl
      cases hB : isB c with
      | false =>
        have e : sp (c :: l) = 0 := by unfold sp; rw [List.takeWhile_cons, hB]; rfl
        rw [e]
        refine Ev.step (f := fun _ => some ((i : Nat) : Int)) (fun k => ?_) (Ev.now _)
        rw [hst, hB]
        rfl
      | true =>
        obtain ⟨m, rfl⟩ : ∃ q, m = q + 1 := ⟨m - 1, by omega⟩
        have e : i + sp (c :: l) = i + 1 + sp l := by
          unfold sp
          rw [List.takeWhile_cons, hB, if_pos rfl, List.length_cons]
          omega
        rw [e, ← hl]
        exact Ev.step (f := fun k => outlawref01_Space.l0 k s ((i + 1 : Nat) : Int)) (fun k => by rw [hst, hB, if_pos rfl]) (space_loop hs m (i + 1) (by rw [hl]; omega) (by omega))
theorem space_ref {s : ByteArray} (hs : s.size ≤ 1000000) : ∃ r, scan_Space.f s = some r ∧ Ev (fun k => outlawref01_Space.f k s) r := by
  have h := space_loop hs s.size 0 (by rw [rest_len]; omega) (Nat.zero_le _)
  rw [show rest s 0 = s.data.toList from rfl, Nat.zero_add] at h
  refine ⟨((sp s.data.toList : Nat) : Int), ?_, h⟩
  have hlen : (trimLeftS s.data.toList blanks.data.toList).length + sp s.data.toList = s.size := by
    have e : trimLeftS s.data.toList blanks.data.toList = s.data.toList.dropWhile isB := rfl
    have h2 := congrArg List.length (List.takeWhile_append_dropWhile (p := isB) (l := s.data.toList))
    rw [List.length_append, size_list] at h2
    rw [e]
    unfold sp
    omega
  have ht : strings_TrimLeft.f s (⟨#[9, 10, 13, 32]⟩ : ByteArray) = some (mk (trimLeftS s.data.toList blanks.data.toList)) := if_pos rfl
  unfold scan_Space.f
  rw [ht, Option.bind_some, mk_size]
  congr 1
  unfold wrap64
  omega
/-! ### words -/
theorem prefix_is (s w : ByteArray) (hw : w.size ≤ s.size) : ((s.extract 0 w.size).toList = w.toList) ↔ hasPrefix s.data.toList w.data.toList = true := by
  rw [toList_data, toList_data, extract_data, List.drop_zero, Nat.sub_zero]
  unfold hasPrefix
  rw [List.isPrefixOf_iff_prefix, List.prefix_iff_eq_take, size_list]
  exact eq_comm
theorem prefix_short (s w : ByteArray) (hw : ¬ w.size ≤ s.size) : hasPrefix s.data.toList w.data.toList = false := by
  cases h : hasPrefix s.data.toList w.data.toList with
  | false => rfl
  | true =>
    unfold hasPrefix at h
    rw [List.isPrefixOf_iff_prefix] at h
    have := h.length_le
    rw [size_list, size_list] at this
    exact absurd this hw
def words : List ByteArray := [sTrue, sFalse, sNull]
theorem word_step {s w : ByteArray} (hs : s.size ≤ 1000000) (k i : Nat) (hi : i < 3) (hw : rdOf ByteArray.empty words (i : Int) = w) :
    outlawref01_Word.l0 (k + 1) s words 3 (i : Int) = if hasPrefix s.data.toList w.data.toList = true then some w else outlawref01_Word.l0 k s words 3 ((i + 1 : Nat) : Int) := by
  have g1 : (i : Int) < 3 := by omega
  have g2 : 0 ≤ (i : Int) := by omega
  have g3 : (i : Int) < (words.length : Int) := g1
  have p4 := wrap_succ (n := 3) hi (by omega)
  rw [outlawref01_Word.l0, if_pos g1, if_pos g2, if_pos g3, hw, p4]
  by_cases c : w.size ≤ s.size
  · have g4 : (s.size : Int) ≥ (w.size : Int) := by omega
    have g5 : 0 ≤ (w.size : Int) := by omega
    have g6 : (w.size : Int) ≤ (s.size : Int) := by omega
    rw [if_pos g4, if_pos g5, if_pos g6, Int.toNat_natCast]
    have hp := prefix_is s w c
    by_cases d : (s.extract 0 w.size).toList = w.toList
    · rw [if_pos d, if_pos (hp.1 d)]
    · rw [if_neg d, if_neg (fun e => d (hp.2 e))]
  · have g4 : ¬ (s.size : Int) ≥ (w.size : Int) := by omega
    rw [if_neg g4, prefix_short s w c]
    rfl
theorem word_ref {s : ByteArray} (hs : s.size ≤ 1000000) : Ev (fun k => outlawref01_Word.f k s) (wordS s) := by
  have hf : ∀ k, outlawref01_Word.f k s = outlawref01_Word.l0 k s words 3 0 := fun k => rfl
  have hend : ∀ k, outlawref01_Word.l0 (k + 1) s words 3 3 = some (⟨#[]⟩ : ByteArray) := fun k => by
    rw [outlawref01_Word.l0, if_neg (by decide)]
  refine ⟨4, fun k hk => ?_⟩
  obtain ⟨k, rfl⟩ : ∃ m, k = m + 4 := ⟨k - 4, by omega⟩
  have s0 := word_step hs (k + 3) 0 (by decide) (w := sTrue) rfl
  have s1 := word_step hs (k + 2) 1 (by decide) (w := sFalse) rfl
  have s2 := word_step hs (k + 1) 2 (by decide) (w := sNull) rfl
  refine (hf _).trans (s0.trans ?_)
  unfold wordS
  by_cases c0 : hasPrefix s.data.toList sTrue.data.toList = true
  · rw [if_pos c0, if_pos c0]
  rw [if_neg c0, if_neg c0]
  refine s1.trans ?_
  by_cases c1 : hasPrefix s.data.toList sFalse.data.toList = true
  · rw [if_pos c1, if_pos c1]
  rw [if_neg c1, if_neg c1]
  refine s2.trans ?_
  by_cases c2 : hasPrefix s.data.toList sNull.data.toList = true
  · rw [if_pos c2, if_pos c2]
  rw [if_neg c2, if_neg c2]
  exact hend k
end Go.Proofs.YtfmenojhojmedaaDoorV
/- The document's ReadNumber is mine. -/
set_option linter.unusedVariables false
set_option linter.unusedSimpArgs false
namespace Go.Proofs.YtfmenojhojmedaaDoorV
open Go.RowKit Go.Lib Go.Proofs.YtfmenojhojmedaaDoorU Go.Proofs.YtfmenojhojmedaaDoorG Go.Proofs.YtfmenojhojmedaaDoorX Go.Proofs.YtfmenojhojmedaaDoor.PB
open Go.Proofs.YtfmenojhojmedaaDoorW.PrintWords hiding encs encs_append
def isD (c : UInt8) : Prop := 48 ≤ c.toNat ∧ c.toNat ≤ 57
instance (c : UInt8) : Decidable (isD c) := by unfold isD; infer_instance
/-- How many digits stand ahead. -/
def nd : List UInt8 → Nat
  | [] => 0
  | c :: l => if isD c then nd l + 1 else 0
theorem digit_val (c : UInt8) : outlawref01_digit.f (c.toNat : Int) = some (decide (isD c)) := by
  unfold outlawref01_digit.f
  by_cases h : (c.toNat : Int) ≥ 48
  · rw [if_pos h]
    have hi : isD c ↔ (c.toNat : Int) ≤ 57 := by unfold isD; omega
    by_cases g : (c.toNat : Int) ≤ 57
    · rw [decide_eq_true g, decide_eq_true (hi.2 g)]
    · rw [decide_eq_false g, decide_eq_false (fun e => g (hi.1 e))]
  · rw [if_neg h]
    congr 1
    have : ¬ isD c := by unfold isD; omega
    rw [decide_eq_false this]
theorem rd_true : ∀ (l : List UInt8) (v : Int) (i : Nat), (rdLoop l v true i).2.1 = true
  | [], _, _ => rfl
  | c :: l, v, i => by
    rw [rdLoop]
    by_cases h : c.toNat < 48 ∨ 57 < c.toNat
    · rw [if_pos h]
    · rw [if_neg h, if_pos (.inl rfl)]
      exact rd_true l v (i + 1)
theorem rd_count : ∀ (l : List UInt8) (v : Int) (b : Bool) (i : Nat), (rdLoop l v b i).2.2 = i + nd l
  | [], _, _, _ => rfl
  | c :: l, v, b, i => by
    rw [rdLoop]
    by_cases h : c.toNat < 48 ∨ 57 < c.toNat
    · have hn : nd (c :: l) = 0 := by rw [nd, if_neg (by unfold isD; omega)]
      rw [if_pos h, hn]
      rfl
    · have hn : nd (c :: l) = nd l + 1 := by rw [nd, if_pos (by unfold isD; omega)]
      rw [if_neg h, hn]
      by_cases g : b = true ∨ (9007199254740991 - ((c.toNat : Int) - 48)) / 10 < v
      · rw [if_pos g, rd_count l v true (i + 1)]
        omega
      · rw [if_neg g, rd_count l _ b (i + 1)]
        omega
/-- What the last loop answers. -/
def numA (one : Bool) (e : Nat) (r : Int × Bool × Nat) : Int × Int × Int := if r.2.1 = true then (0, 0, 4) else if one = true then (-r.1, (e : Int), 0) else (r.1, (e : Int), 0)
theorem num_loop {s : ByteArray} (hs : s.size ≤ 1000000) (one : Bool) {f : Int} (hf : f = if one = true then 1 else 0) : ∀ (l : List UInt8) (i j : Nat) (v : Int), rest s i = l → i ≤ s.size → 0 ≤ v → v ≤ 9007199254740991 → Ev (fun k => outlawref01_ReadNumber.l1 k s f ((i + nd l : Nat) : Int) v (i : Int)) (numA one (i + nd l) (rdLoop l v false j)) := by
  intro l
  have stop : ∀ (i j : Nat) (v : Int), 0 ≤ v → v ≤ 9007199254740991 → Ev (fun k => outlawref01_ReadNumber.l1 k s f ((i + 0 : Nat) : Int) v (i : Int)) (numA one (i + 0) (v, false, j)) := by
    intro i j v h0 h1
    have g1 : ¬ (i : Int) < ((i + 0 : Nat) : Int) := by omega
    have w : wrap64 (-v) = -v := by unfold wrap64; omega
    refine Ev.step (f := fun _ => some (numA one (i + 0) (v, false, j))) (fun k => ?_) (Ev.now _)
    rw [outlawref01_ReadNumber.l1, if_neg g1, w, hf]
    cases one with
    | true => rfl
    | false => rfl
  induction l with
  | nil =>
    intro i j v hr hi h0 h1
    exact stop i j v h0 h1
  | cons c l ih =>
    intro i j v hr hi h0 h1
    by_cases hd : isD c
    · have hd2 := hd
      unfold isD at hd2
      obtain ⟨ha2, hb, hl, _⟩ := rest_cons hr
      have hn : nd (c :: l) = nd l + 1 := by rw [nd, if_pos hd]
      have g1 : (i : Int) < ((i + (nd l + 1) : Nat) : Int) := by omega
      have g2 : 0 ≤ (i : Int) := by omega
      have g3 : (i : Int) < (s.size : Int) := by omega
      have p4 := wrap_succ (n := s.size) ha2 (by omega)
      have hmod : ((c.toNat : Int) - 48) % 256 = (c.toNat : Int) - 48 := by omega
      have hb2 : 10 * v + ((c.toNat : Int) - 48) ≤ 90071992547409920 := by omega
      have hw : wrap64 (wrap64 (v * 10) + ((c.toNat : Int) - 48)) = 10 * v + ((c.toNat : Int) - 48) := by unfold wrap64; omega
      have hst : ∀ k, outlawref01_ReadNumber.l1 (k + 1) s f ((i + (nd l + 1) : Nat) : Int) v (i : Int) = if 10 * v + ((c.toNat : Int) - 48) > 9007199254740991 then some (0, 0, 4) else outlawref01_ReadNumber.l1 k s f ((i + (nd l + 1) : Nat) : Int) (10 * v + ((c.toNat : Int) - 48)) ((i + 1 : Nat) : Int) := fun k => by
        rw [outlawref01_ReadNumber.l1, if_pos g1, if_pos g2, if_pos g3, hb, hmod, p4]
        simp only [hw]
      rw [hn]
      clear hw p4 hmod
      by_cases hbig : 10 * v + ((c.toNat : Int) - 48) > 9007199254740991
      · have e : rdLoop (c :: l) v false j = rdLoop l v true (j + 1) := by
          rw [rdLoop, if_neg (by omega), if_pos (.inr (by omega))]
        have ht := rd_true l v (j + 1)
        have ea : numA one (i + (nd l + 1)) (rdLoop (c :: l) v false j) = (0, 0, 4) := by
          unfold numA
          rw [e, if_pos ht]
        rw [ea]
        exact Ev.step (f := fun _ => some (0, 0, 4)) (fun k => (hst k).trans (if_pos hbig)) (Ev.now _)
      · have e : rdLoop (c :: l) v false j = rdLoop l (10 * v + ((c.toNat : Int) - 48)) false (j + 1) := by
          rw [rdLoop, if_neg (by omega), if_neg (by simp; omega)]
        have h := ih (i + 1) (j + 1) (10 * v + ((c.toNat : Int) - 48)) hl (by omega) (by omega) (by omega)
        have es : i + 1 + nd l = i + (nd l + 1) := by omega
        rw [es] at h
        rw [e]
        exact Ev.step (f := fun k => outlawref01_ReadNumber.l1 k s f ((i + (nd l + 1) : Nat) : Int) (10 * v + ((c.toNat : Int) - 48)) ((i + 1 : Nat) : Int)) (fun k => (hst k).trans (if_neg hbig)) h
    · have hn : nd (c :: l) = 0 := by rw [nd, if_neg hd]
      have e : rdLoop (c :: l) v false j = (v, false, j) := by
        rw [rdLoop, if_pos (by unfold isD at hd; omega)]
      rw [hn, e]
      exact stop i j v h0 h1
theorem end_loop {s : ByteArray} (hs : s.size ≤ 1000000) (f : Int) {R : Int × Int × Int} : ∀ (l : List UInt8) (i : Nat), rest s i = l → i ≤ s.size → Ev (fun k => outlawref01_ReadNumber.j3 k s f ((i + nd l : Nat) : Int)) R → Ev (fun k => outlawref01_ReadNumber.l0 k s f (i : Int)) R := by
  intro l
  induction l with
  | nil =>
    intro i hr hi h
    have := rest_nil hr hi
    have g : ¬ (i : Int) < (s.size : Int) := by omega
    exact Ev.step (f := fun k => outlawref01_ReadNumber.j3 k s f ((i : Nat) : Int)) (fun k => by rw [outlawref01_ReadNumber.l0, if_neg g]) h
  | cons c l ih =>
    intro i hr hi h
    obtain ⟨ha2, hb, hl, _⟩ := rest_cons hr
    have g1 : (i : Int) < (s.size : Int) := by omega
    have g2 : 0 ≤ (i : Int) := by omega
    have p4 := wrap_succ (n := s.size) ha2 (by omega)
    by_cases hd : isD c
    · have hn : i + nd (c :: l) = i + 1 + nd l := by rw [nd, if_pos hd]; omega
      rw [hn] at h
      exact Ev.step (f := fun k => outlawref01_ReadNumber.l0 k s f ((i + 1 : Nat) : Int)) (fun k => by rw [outlawref01_ReadNumber.l0, if_pos g1, if_pos g2, hb, digit_val, Option.bind_some, decide_eq_true hd, if_pos rfl, p4]) (ih (i + 1) hl (by omega) h)
    · have hn : i + nd (c :: l) = i := by rw [nd, if_neg hd]; rfl
      rw [hn] at h
      exact Ev.step (f := fun k => outlawref01_ReadNumber.j3 k s f (i : Int)) (fun k => by rw [outlawref01_ReadNumber.l0, if_pos g1, if_pos g2, hb, digit_val, Option.bind_some, decide_eq_false hd, if_neg Bool.false_ne_true]) h
/-- From the first digit's place on. -/
theorem from_ev {s : ByteArray} (hs : s.size ≤ 1000000) (one : Bool) {f : Nat} (hf : f = if one = true then 1 else 0) (hle : f ≤ s.size) : Ev (fun k => outlawref01_ReadNumber.j1 k s (f : Int)) (if rest s f = [] then (0, 0, 3) else readR (rest s f) one) := by
  cases hr : rest s f with
  | nil =>
    have := rest_nil hr hle
    have g : (f : Int) = (s.size : Int) := by omega
    rw [if_pos rfl]
    exact Ev.step (f := fun _ => some (0, 0, 3)) (fun k => by rw [outlawref01_ReadNumber.j1, if_pos g]) (Ev.now _)
  | cons c l =>
    rw [if_neg (by simp)]
    obtain ⟨ha2, hb, hl, _⟩ := rest_cons hr
    have g1 : ¬ (f : Int) = (s.size : Int) := by omega
    have g2 : 0 ≤ (f : Int) := by omega
    have g3 : (f : Int) < (s.size : Int) := by omega
    have hst : ∀ k, outlawref01_ReadNumber.j1 (k + 1) s (f : Int) = if decide (isD c) = true then outlawref01_ReadNumber.l0 k s (f : Int) (f : Int) else some (0, 0, 5) := fun k => by
      rw [outlawref01_ReadNumber.j1, if_neg g1, if_pos g2, if_pos g3, hb, digit_val, Option.bind_some]
    have hcount := rd_count (c :: l) 0 false 0
    rw [Nat.zero_add] at hcount
    by_cases hd : isD c
    · have hn : nd (c :: l) = nd l + 1 := by rw [nd, if_pos hd]
      refine Ev.step (f := fun k => outlawref01_ReadNumber.l0 k s (f : Int) (f : Int)) (fun k => (hst k).trans (if_pos (decide_eq_true hd))) ?_
      refine end_loop hs (f : Int) (c :: l) f hr hle ?_
      have hone : ((f : Int) == 1) = one := by
        subst hf
        cases one <;> rfl
      have hw : wrap64 ((f : Int) + 1) = ((f + 1 : Nat) : Int) := by unfold wrap64; omega
      have hbad : Ev (fun k => outlawref01_ReadNumber.j4 k s (f : Int) ((f + nd (c :: l) : Nat) : Int) true) (0, 0, 5) := Ev.step (f := fun _ => some (0, 0, 5)) (fun k => by rw [outlawref01_ReadNumber.j4, if_pos rfl]) (Ev.now _)
      have hgood : Ev (fun k => outlawref01_ReadNumber.j4 k s (f : Int) ((f + nd (c :: l) : Nat) : Int) false) (numA one (f + nd (c :: l)) (rdLoop (c :: l) 0 false 0)) := Ev.step (f := fun k => outlawref01_ReadNumber.l1 k s (f : Int) ((f + nd (c :: l) : Nat) : Int) 0 (f : Int)) (fun k => by rw [outlawref01_ReadNumber.j4, if_neg Bool.false_ne_true]) (num_loop hs one (by subst hf; cases one <;> rfl) (c :: l) f 0 0 hr hle (by decide) (by decide))
      have h48 : (c = 48) ↔ (c.toNat : Int) = 48 := (ny (c := c) (x := 48) 48 (by decide) rfl).symm
      have hj3 : ∀ k, outlawref01_ReadNumber.j3 (k + 1) s (f : Int) ((f + nd (c :: l) : Nat) : Int) = if (c.toNat : Int) = 48 then (if ((f + nd (c :: l) : Nat) : Int) > ((f + 1 : Nat) : Int) then outlawref01_ReadNumber.j4 k s (f : Int) ((f + nd (c :: l) : Nat) : Int) true else outlawref01_ReadNumber.j4 k s (f : Int) ((f + nd (c :: l) : Nat) : Int) one) else outlawref01_ReadNumber.j4 k s (f : Int) ((f + nd (c :: l) : Nat) : Int) false := fun k => by
        rw [outlawref01_ReadNumber.j3, if_pos g2, if_pos g3, hb, hw, hone]
      have hR : readR (c :: l) one = if nd (c :: l) = 0 ∨ c = 48 ∧ (1 < nd (c :: l) ∨ one = true) then (0, 0, 5) else numA one (f + nd (c :: l)) (rdLoop (c :: l) 0 false 0) := by
        unfold readR numA
        simp only [List.head?_cons, Option.some.injEq, hcount]
        by_cases q1 : nd (c :: l) = 0 ∨ c = 48 ∧ (1 < nd (c :: l) ∨ one = true)
        · rw [if_pos q1, if_pos q1]
        rw [if_neg q1, if_neg q1]
        by_cases q2 : (rdLoop (c :: l) 0 false 0).2.1 = true
        · rw [if_pos q2, if_pos q2]
        rw [if_neg q2, if_neg q2]
        cases one with
        | true =>
          rw [if_pos rfl, if_pos rfl]
          have : f = 1 := hf
          rw [this]
          have e : ((nd (c :: l) : Nat) : Int) + 1 = ((1 + nd (c :: l) : Nat) : Int) := by omega
          rw [e]
        | false =>
          rw [if_neg Bool.false_ne_true, if_neg Bool.false_ne_true]
          have : f = 0 := hf
          rw [this, Nat.zero_add]
      clear hw
      by_cases q : c = 48 ∧ (1 < nd (c :: l) ∨ one = true)
      · rw [hR, if_pos (.inr q)]
        refine Ev.step (f := fun k => outlawref01_ReadNumber.j4 k s (f : Int) ((f + nd (c :: l) : Nat) : Int) true) (fun k => (hj3 k).trans ((if_pos (h48.1 q.1)).trans ?_)) hbad
        by_cases q2 : ((f + nd (c :: l) : Nat) : Int) > ((f + 1 : Nat) : Int)
        · exact if_pos q2
        · rcases q.2 with q3 | q3
          · omega
          · exact (if_neg q2).trans (by rw [q3])
      · rw [hR, if_neg (by rintro (h | h); · omega
                           · exact q h)]
        refine Ev.step (f := fun k => outlawref01_ReadNumber.j4 k s (f : Int) ((f + nd (c :: l) : Nat) : Int) false) (fun k => (hj3 k).trans ?_) hgood
        by_cases q1 : (c.toNat : Int) = 48
        · have hno : ¬ (1 < nd (c :: l) ∨ one = true) := fun h => q ⟨h48.2 q1, h⟩
          have h1 : ¬ 1 < nd (c :: l) := fun h => hno (.inl h)
          have h2 : one = false := by
            cases one with
            | true => exact absurd (.inr rfl) hno
            | false => rfl
          rw [if_pos q1, if_neg (by omega), h2]
        · exact if_neg q1
    · have hn : nd (c :: l) = 0 := by rw [nd, if_neg hd]
      have hR : readR (c :: l) one = (0, 0, 5) := by
        unfold readR
        simp only [hcount]
        rw [if_pos (.inl hn)]
      rw [hR]
      exact Ev.step (f := fun _ => some (0, 0, 5)) (fun k => (hst k).trans (if_neg (by simp [hd]))) (Ev.now _)
theorem readnum_ref {s : ByteArray} (hs : s.size ≤ 1000000) : Ev (fun k => outlawref01_ReadNumber.f k s) (readS s) := by
  have hgo : ∀ (b : Bool) (f : Nat), f = (if b = true then 1 else 0) → ∀ R, Ev (fun k => outlawref01_ReadNumber.j1 k s (f : Int)) R → Ev (fun k => outlawref01_ReadNumber.j0 k s 0 b) R := by
    intro b f hf R h
    subst hf
    refine Ev.step (f := fun k => outlawref01_ReadNumber.j1 k s ((if b = true then 1 else 0 : Nat) : Int)) (fun k => ?_) h
    rw [outlawref01_ReadNumber.j0]
    cases b <;> rfl
  cases hl : s.data.toList with
  | nil =>
    have hsz : s.size = 0 := by rw [← size_list, hl]; rfl
    have hb : behind s = [] := by unfold behind; rw [hl]; rfl
    have h := from_ev hs false (f := 0) rfl (Nat.zero_le _)
    rw [show rest s 0 = [] from hl, if_pos rfl] at h
    have hR : readS s = (0, 0, 3) := by unfold readS; rw [if_pos hb]
    rw [hR]
    exact Ev.congr (fun k => by unfold outlawref01_ReadNumber.f; rw [if_pos (by rw [toList_data, hl])]) (hgo false 0 rfl _ h)
  | cons c l =>
    have hsz : s.size = l.length + 1 := by rw [← size_list, hl, List.length_cons]
    obtain ⟨ha2, hb, hl1, _⟩ := rest_cons (show rest s 0 = c :: l from hl)
    rw [show ((0 : Nat) : Int) = 0 from rfl] at hb
    have hf : ∀ k, outlawref01_ReadNumber.f k s = outlawref01_ReadNumber.j0 k s 0 ((c.toNat : Int) == 45) := fun k => by
      unfold outlawref01_ReadNumber.f
      rw [if_neg (by rw [toList_data, hl]; simp), if_pos (by omega), hb]
    by_cases h45 : c = 45
    · subst h45
      have hbe : behind s = l := by unfold behind; rw [hl]; exact prefix_minus l
      have h := from_ev hs true (f := 1) rfl (by omega)
      rw [show rest s 1 = l from hl1] at h
      have hR : readS s = if l = [] then (0, 0, 3) else readR l true := by
        unfold readS
        rw [hbe, decide_eq_true (by omega : l.length < s.size)]
      rw [hR]
      exact Ev.congr (fun k => hf k) (hgo true 1 rfl _ h)
    · have hbe : behind s = c :: l := by unfold behind; rw [hl]; exact prefix_none h45
      have h := from_ev hs false (f := 0) rfl (Nat.zero_le _)
      rw [show rest s 0 = c :: l from hl] at h
      have hR : readS s = if c :: l = [] then (0, 0, 3) else readR (c :: l) false := by
        unfold readS
        rw [hbe, decide_eq_false (by rw [List.length_cons]; omega : ¬ (c :: l).length < s.size)]
      have hne : ((c.toNat : Int) == 45) = false := beq_eq_false_iff_ne.2 (nx (x := 45) 45 h45 (by decide) rfl)
      rw [hR]
      exact Ev.congr (fun k => by rw [hf k, hne]) (hgo false 0 rfl _ h)
end Go.Proofs.YtfmenojhojmedaaDoorV
