/- The reader's printed functions tell what the literal's grammar tells. -/
import Derived.Test.YtfmenojhojmedaaDoorU2
import Derived.Test.YtfmenojhojmedaaDoorC7
import Derived.Test.YtfmenojhojmedaaDoorX1
import Derived.Lib.TrimUEq
set_option linter.unusedVariables false
set_option linter.unusedSimpArgs false
namespace Go.Proofs.YtfmenojhojmedaaDoorV
open Go.RowKit Go.Lib Go.Proofs.YtfmenojhojmedaaDoorU Go.Proofs.YtfmenojhojmedaaDoorG Go.Proofs.YtfmenojhojmedaaDoorX Go.Proofs.YtfmenojhojmedaaDoor.PR Go.Proofs.YtfmenojhojmedaaDoorW.PrintWords
/-- What is left from a place on. -/
def rest (s : ByteArray) (a : Nat) : List UInt8 := s.data.toList.drop a
theorem size_list (s : ByteArray) : s.data.toList.length = s.size := by rw [Array.length_toList]; rfl
theorem rest_len (s : ByteArray) (a : Nat) : (rest s a).length = s.size - a := by unfold rest; rw [List.length_drop, size_list]
theorem rest_back {s : ByteArray} {a : Nat} {p t : List UInt8} (h : rest s a = p ++ t) (ha : a ≤ s.size) : s.size - t.length = a + p.length ∧ a + p.length ≤ s.size ∧ rest s (a + p.length) = t := by
  have h1 : (rest s a).length = p.length + t.length := by rw [h, List.length_append]
  rw [rest_len] at h1
  refine ⟨by omega, by omega, ?_⟩
  unfold rest at h ⊢
  rw [← List.drop_drop, h, List.drop_left]
theorem rest_cons {s : ByteArray} {a : Nat} {c : UInt8} {l : List UInt8} (h : rest s a = c :: l) : a < s.size ∧ bt s (a : Int) = (c.toNat : Int) ∧ rest s (a + 1) = l ∧ s.size - l.length = a + 1 := by
  have h1 : (rest s a).length = l.length + 1 := by rw [h, List.length_cons]
  rw [rest_len] at h1
  have ha : a < s.size := by omega
  have hb : (rest s a)[0]? = some c := by rw [h]; rfl
  unfold rest at hb
  rw [List.getElem?_drop, Nat.add_zero, bt_list ha] at hb
  refine ⟨ha, by rw [bt_nat ha, Option.some.inj hb], ?_, by omega⟩
  exact (rest_back (p := [c]) (t := l) (by rw [h]; rfl) (by omega)).2.2
theorem rest_nil {s : ByteArray} {a : Nat} (h : rest s a = []) (ha : a ≤ s.size) : a = s.size := by
  have h1 : (rest s a).length = 0 := by rw [h]; rfl
  rw [rest_len] at h1
  omega
theorem next_nil {s : ByteArray} {a : Nat} (e : Int) (ha : a ≤ s.size) (h : rest s a = []) : scan_reader_next.f s a e = some (0, false, s, (a : Int), 3) := by
  have := rest_nil h ha
  unfold scan_reader_next.f
  rw [if_pos (by omega)]
theorem next_cons {s : ByteArray} {a : Nat} {c : UInt8} {l : List UInt8} (e : Int) (hs : s.size ≤ 1000000) (h : rest s a = c :: l) : scan_reader_next.f s a e = some ((c.toNat : Int), true, s, ((a + 1 : Nat) : Int), e) := by
  obtain ⟨ha, hb, _, _⟩ := rest_cons h
  have e1 : wrap64 ((a : Int) + 1) = ((a + 1 : Nat) : Int) := by unfold wrap64; omega
  have e2 : wrap64 (((a + 1 : Nat) : Int) - 1) = (a : Int) := by unfold wrap64; omega
  unfold scan_reader_next.f
  rw [if_neg (by omega), e1, e2, if_pos (by omega), if_pos (by omega), hb]
theorem idx_all : ∀ n : Fin 256, indexByte [48, 49, 50, 51, 52, 53, 54, 55, 56, 57, 97, 98, 99, 100, 101, 102] (if 65 ≤ n.val ∧ n.val ≤ 70 then ((((n.val : Nat) : Int) + 32) % 256).toNat.toUInt8 else ((n.val : Nat) : Int).toNat.toUInt8) = (match hexV (UInt8.ofNat n.val) with | none => -1 | some d => (d : Int)) := by decide +kernel
theorem idx_of (c : UInt8) : indexByte [48, 49, 50, 51, 52, 53, 54, 55, 56, 57, 97, 98, 99, 100, 101, 102] (if 65 ≤ c.toNat ∧ c.toNat ≤ 70 then ((((c.toNat : Nat) : Int) + 32) % 256).toNat.toUInt8 else ((c.toNat : Nat) : Int).toNat.toUInt8) = (match hexV c with | none => -1 | some d => (d : Int)) := by
  have h := idx_all ⟨c.toNat, c.toNat_lt⟩
  simpa only [UInt8.ofNat_toNat] using h
theorem or_nat (n d : Nat) (hn : n < 4096) (hd : d < 16) : Go.bits .or .i32 (wrap32 ((n : Int) * 16)) (wrap32 (d : Int)) = ((n * 16 + d : Nat) : Int) := by
  have e1 : wrap32 ((n : Int) * 16) = ((n * 16 : Nat) : Int) := by unfold wrap32; omega
  have e2 : wrap32 (d : Int) = (d : Int) := by unfold wrap32; omega
  have h1 : (BitVec.ofInt 32 ((n * 16 : Nat) : Int)).toNat = n * 16 := by
    rw [BitVec.ofInt_natCast, BitVec.toNat_ofNat]; exact Nat.mod_eq_of_lt (by omega)
  have h2 : (BitVec.ofInt 32 (d : Int)).toNat = d := by
    rw [BitVec.ofInt_natCast, BitVec.toNat_ofNat]; exact Nat.mod_eq_of_lt (by omega)
  have h3 : n * 16 ||| d = n * 16 + d := by
    have := Nat.shiftLeft_add_eq_or_of_lt (b := d) (i := 4) (by omega) n
    rw [Nat.shiftLeft_eq] at this
    exact this.symm
  rw [e1, e2]
  show IntKind.i32.wrap ((BitVec.ofInt 32 ((n * 16 : Nat) : Int) ||| BitVec.ofInt 32 (d : Int)).toNat : Int) = _
  rw [BitVec.toNat_or, h1, h2, h3, IntKind.wrap_i32]
  omega
/-- What a reader's method answers, from some number of rounds on. -/
def Res (s : ByteArray) (e : Int) (R : Rd Nat) (g : Nat → Option (Int × Bool × ByteArray × Int × Int)) : Prop := match R with
  | .error c => ∃ a : Int, Ev g (0, false, s, a, c)
  | .ok (n, l) => Ev g ((n : Int), true, s, ((s.size - l.length : Nat) : Int), e)
theorem hex_step {s : ByteArray} {a : Nat} {c : UInt8} {l : List UInt8} (e : Int) (hs : s.size ≤ 1000000) (h : rest s a = c :: l) (n : Int) {i : Nat} (hi : i < 4) (k : Nat) :
    scan_reader_hex.l0 (k + 2) n i s a e = (match hexV c with | none => some (0, false, s, ((a + 1 : Nat) : Int), 5) | some d => scan_reader_hex.l0 k (Go.bits .or .i32 (wrap32 (n * 16)) (wrap32 (d : Int))) ((i + 1 : Nat) : Int) s ((a + 1 : Nat) : Int) e) := by
  have hix := idx_of c
  have e1 : wrap64 ((i : Int) + 1) = ((i + 1 : Nat) : Int) := by unfold wrap64; omega
  rw [scan_reader_hex.l0, if_pos (by omega), next_cons e hs h]
  simp only [Option.bind_some, if_true]
  by_cases h1 : (c.toNat : Int) ≥ 65
  · rw [if_pos h1, scan_reader_hex.j1]
    by_cases h2 : (c.toNat : Int) ≤ 70
    · rw [if_pos (by omega)] at hix
      rw [decide_eq_true h2, if_pos rfl]
      unfold strings_IndexByte.f
      simp only [Option.bind_some]
      rw [hix, e1]
      cases hexV c with
      | none => rfl
      | some d => simp only; rw [if_neg (by omega)]
    · rw [if_neg (by omega)] at hix
      rw [decide_eq_false h2, if_neg Bool.false_ne_true]
      unfold strings_IndexByte.f
      simp only [Option.bind_some]
      rw [hix, e1]
      cases hexV c with
      | none => rfl
      | some d => simp only; rw [if_neg (by omega)]
  · rw [if_neg h1, scan_reader_hex.j1]
    rw [if_neg (by omega)] at hix
    rw [if_neg Bool.false_ne_true]
    unfold strings_IndexByte.f
    simp only [Option.bind_some]
    rw [hix, e1]
    cases hexV c with
    | none => rfl
    | some d => simp only; rw [if_neg (by omega)]
theorem hex_loop {s : ByteArray} (hs : s.size ≤ 1000000) (e : Int) : ∀ d n a i : Nat, i + d = 4 → n < 16 ^ i → a ≤ s.size → Res s e (hexN d n (rest s a)) (fun k => scan_reader_hex.l0 k n i s a e)
  | 0, n, a, i, hi, hn, ha => by
    obtain rfl : i = 4 := by omega
    refine ⟨1, fun k hk => ?_⟩
    obtain ⟨k, rfl⟩ : ∃ m, k = m + 1 := ⟨k - 1, by omega⟩
    have : s.size - (rest s a).length = a := by rw [rest_len]; omega
    rw [this]
    simp [scan_reader_hex.l0]
  | d + 1, n, a, i, hi, hn, ha => by
    cases hr : rest s a with
    | nil =>
      refine ⟨a, 1, fun k hk => ?_⟩
      obtain ⟨k, rfl⟩ : ∃ m, k = m + 1 := ⟨k - 1, by omega⟩
      simp only
      rw [scan_reader_hex.l0, if_pos (by omega), next_nil e ha hr]
      rfl
    | cons c l =>
      have hstep := hex_step e hs hr (n : Int) (i := i) (by omega)
      obtain ⟨ha2, _, hl, hsz⟩ := rest_cons hr
      simp only [hexN]
      cases hv : hexV c with
      | none =>
        refine ⟨((a + 1 : Nat) : Int), 2, fun k hk => ?_⟩
        obtain ⟨k, rfl⟩ : ∃ m, k = m + 2 := ⟨k - 2, by omega⟩
        simp only
        rw [hstep k, hv]
      | some x =>
        have hx := hexV_lt hv
        have h16 : n < 4096 := by
          have : 16 ^ i ≤ 16 ^ 3 := Nat.pow_le_pow_right (by omega) (by omega)
          omega
        have ih := hex_loop hs e d (n * 16 + x) (a + 1) (i + 1) (by omega) (by rw [Nat.pow_succ]; omega) (by omega)
        rw [hl] at ih
        simp only
        have key : ∀ k, scan_reader_hex.l0 (k + 2) n i s a e = scan_reader_hex.l0 k ((n * 16 + x : Nat) : Int) ((i + 1 : Nat) : Int) s ((a + 1 : Nat) : Int) e := by
          intro k
          rw [hstep k, hv]
          simp only
          rw [or_nat n x h16 hx]
        have lift : ∀ r, Ev (fun k => scan_reader_hex.l0 k ((n * 16 + x : Nat) : Int) ((i + 1 : Nat) : Int) s ((a + 1 : Nat) : Int) e) r → Ev (fun k => scan_reader_hex.l0 k n i s a e) r := by
          rintro r ⟨K, hK⟩
          refine ⟨K + 2, fun k hk => ?_⟩
          obtain ⟨k, rfl⟩ : ∃ m, k = m + 2 := ⟨k - 2, by omega⟩
          simp only
          rw [key]
          exact hK k (by omega)
        cases hq : hexN d (n * 16 + x) l with
        | error c' =>
          rw [hq] at ih
          obtain ⟨a', h'⟩ := ih
          exact ⟨a', lift _ h'⟩
        | ok y =>
          rw [hq] at ih
          exact lift _ ih
theorem hex_res {s : ByteArray} (hs : s.size ≤ 1000000) (e : Int) {a : Nat} (ha : a ≤ s.size) : Res s e (hexN 4 0 (rest s a)) (fun k => scan_reader_hex.f k s a e) := hex_loop hs e 4 0 a 0 rfl (by decide) ha
theorem want_nil {s : ByteArray} {a : Nat} (e c : Int) (ha : a ≤ s.size) (h : rest s a = []) : scan_reader_want.f s a e c = some (false, s, (a : Int), 3) := by
  unfold scan_reader_want.f
  rw [next_nil e ha h]
  rfl
theorem want_is {s : ByteArray} {a : Nat} {c : UInt8} {l : List UInt8} (e x : Int) (hs : s.size ≤ 1000000) (h : rest s a = c :: l) (hx : (c.toNat : Int) = x) : scan_reader_want.f s a e x = some (true, s, ((a + 1 : Nat) : Int), e) := by
  unfold scan_reader_want.f
  rw [next_cons e hs h]
  simp only [Option.bind_some, if_true]
  rw [if_pos hx, hx]
  simp
theorem want_not {s : ByteArray} {a : Nat} {c : UInt8} {l : List UInt8} (e x : Int) (hs : s.size ≤ 1000000) (h : rest s a = c :: l) (hx : ¬ (c.toNat : Int) = x) : scan_reader_want.f s a e x = some (false, s, ((a + 1 : Nat) : Int), 6) := by
  unfold scan_reader_want.f
  rw [next_cons e hs h]
  simp only [Option.bind_some, if_true]
  rw [if_neg hx]
  simp [hx]
theorem nat_ne {c : UInt8} {n : Nat} (h : c ≠ UInt8.ofNat n) (hn : n < 256) : ¬ (c.toNat : Int) = (n : Int) := by
  intro e
  apply h
  have : c.toNat = n := by omega
  rw [← this, UInt8.ofNat_toNat]
theorem hexN4_lt {l t : List UInt8} {n : Nat} (h : hexN 4 0 l = .ok (n, t)) : n < 65536 ∧ ∃ p, l = p ++ t := by
  obtain ⟨p, hp, _, _, _, hlt⟩ := hexN_ok 4 0 l n t h
  exact ⟨by simpa using hlt, p, hp⟩
theorem j1_is {s : ByteArray} {a b e n m : Int} {k : Nat} (h : scan_reader_hex.f k s a e = some (m, true, s, b, e)) : scan_reader_unit.j1 (k + 1) n false s a e = if m < 56320 then some (0, false, s, b, 6) else if m > 57343 then some (0, false, s, b, 6) else some (wrap32 (wrap32 (wrap32 (65536 + wrap32 (wrap32 (n - 55296) * 1024)) + m) - 56320), true, s, b, e) := by
  rw [scan_reader_unit.j1, if_neg Bool.false_ne_true, h, Option.bind_some]
  exact if_pos rfl
theorem j1_bad {s : ByteArray} {a b e n c : Int} {k : Nat} (h : scan_reader_hex.f k s a e = some (0, false, s, b, c)) : scan_reader_unit.j1 (k + 1) n false s a e = some (0, false, s, b, c) := by
  rw [scan_reader_unit.j1, if_neg Bool.false_ne_true, h, Option.bind_some]
  exact if_neg Bool.false_ne_true
theorem unit_is {s : ByteArray} {a b e n : Int} {k : Nat} (h : scan_reader_hex.f k s a e = some (n, true, s, b, e)) : scan_reader_unit.f k s a e = if n < 55296 then scan_reader_unit.j0 k n true true s b e else scan_reader_unit.j0 k n true (decide (n > 57343)) s b e := by
  rw [scan_reader_unit.f, h, Option.bind_some]
  exact if_pos rfl
theorem unit_bad {s : ByteArray} {a b e c : Int} {k : Nat} (h : scan_reader_hex.f k s a e = some (0, false, s, b, c)) : scan_reader_unit.f k s a e = scan_reader_unit.j0 k 0 false true s b c := by
  rw [scan_reader_unit.f, h, Option.bind_some]
  exact if_neg Bool.false_ne_true
/-- The second half. -/
theorem low_res {s : ByteArray} (hs : s.size ≤ 1000000) (e : Int) {n a : Nat} (hn : 55296 ≤ n) (hn2 : n < 56320) (ha : a ≤ s.size) :
    Res s e (lowL n (rest s a)) (fun k => scan_reader_unit.j1 k n false s a e) := by
  have h := hex_res hs e ha
  cases hx : hexN 4 0 (rest s a) with
  | error c =>
    have hval : lowL n (rest s a) = .error c := by unfold lowL; rw [hx]
    rw [hval]
    rw [hx] at h
    obtain ⟨a', K, hK⟩ := h
    (try simp only at hK)
    refine ⟨a', K + 1, fun k hk => ?_⟩
    obtain ⟨k, rfl⟩ : ∃ m, k = m + 1 := ⟨k - 1, by omega⟩
    simp only
    exact j1_bad (hK k (by omega))
  | ok y =>
    obtain ⟨m, l4⟩ := y
    rw [hx] at h
    obtain ⟨K, hK⟩ := h
    (try simp only at hK)
    have hm := (hexN4_lt hx).1
    by_cases hc : m < 56320 ∨ 57343 < m
    · have hval : lowL n (rest s a) = .error 6 := by unfold lowL; rw [hx]; simp only; rw [if_pos hc]
      rw [hval]
      refine ⟨((s.size - l4.length : Nat) : Int), K + 1, fun k hk => ?_⟩
      obtain ⟨k, rfl⟩ : ∃ m, k = m + 1 := ⟨k - 1, by omega⟩
      simp only
      rw [j1_is (hK k (by omega))]
      by_cases h1 : (m : Int) < 56320
      · rw [if_pos h1]
      · rw [if_neg h1, if_pos (by omega)]
    · have hval : lowL n (rest s a) = .ok (65536 + (n - 55296) * 1024 + (m - 56320), l4) := by unfold lowL; rw [hx]; simp only; rw [if_neg hc]
      rw [hval]
      refine ⟨K + 1, fun k hk => ?_⟩
      obtain ⟨k, rfl⟩ : ∃ m, k = m + 1 := ⟨k - 1, by omega⟩
      simp only
      rw [j1_is (hK k (by omega))]
      rw [if_neg (by omega), if_neg (by omega)]
      have : wrap32 (wrap32 (wrap32 (65536 + wrap32 (wrap32 ((n : Int) - 55296) * 1024)) + (m : Int)) - 56320) = ((65536 + (n - 55296) * 1024 + (m - 56320) : Nat) : Int) := by unfold wrap32; omega
      rw [this]
theorem unit_res {s : ByteArray} (hs : s.size ≤ 1000000) (e : Int) {a : Nat} (ha : a ≤ s.size) :
    Res s e (unitL (rest s a)) (fun k => scan_reader_unit.f k s a e) := by
  have h := hex_res hs e ha
  cases hx : hexN 4 0 (rest s a) with
  | error c =>
    have hval : unitL (rest s a) = .error c := by unfold unitL; rw [hx]
    rw [hval]
    rw [hx] at h
    obtain ⟨a', K, hK⟩ := h
    (try simp only at hK)
    refine ⟨a', K + 1, fun k hk => ?_⟩
    obtain ⟨k, rfl⟩ : ∃ m, k = m + 1 := ⟨k - 1, by omega⟩
    simp only
    rw [unit_bad (hK _ (by omega)), scan_reader_unit.j0, if_pos rfl]
  | ok y =>
    obtain ⟨n, l1⟩ := y
    rw [hx] at h
    obtain ⟨K, hK⟩ := h
    (try simp only at hK)
    obtain ⟨hlt, p, hp⟩ := hexN4_lt hx
    obtain ⟨hb1, hb2, hb3⟩ := rest_back hp ha
    have hun : ∀ k, K ≤ k → scan_reader_unit.f k s a e = if (n : Int) < 55296 then scan_reader_unit.j0 k n true true s ((s.size - l1.length : Nat) : Int) e else scan_reader_unit.j0 k n true (decide ((n : Int) > 57343)) s ((s.size - l1.length : Nat) : Int) e := by
      intro k hk
      exact unit_is (hK _ hk)
    by_cases hm : n < 55296 ∨ 57343 < n
    · have hval : unitL (rest s a) = .ok (n, l1) := by unfold unitL; rw [hx]; simp only; rw [if_pos hm]
      rw [hval]
      refine ⟨K + 1, fun k hk => ?_⟩
      obtain ⟨k, rfl⟩ : ∃ m, k = m + 1 := ⟨k - 1, by omega⟩
      simp only
      rw [hun _ (by omega)]
      by_cases h1 : (n : Int) < 55296
      · rw [if_pos h1, scan_reader_unit.j0, if_pos rfl]
      · rw [if_neg h1, decide_eq_true (by omega : (n : Int) > 57343), scan_reader_unit.j0, if_pos rfl]
    · have hval0 : unitL (rest s a) = if 56320 ≤ n then .error 6 else pairL n l1 := by unfold unitL; rw [hx]; simp only; rw [if_neg hm]
      have hj : ∀ k, K ≤ k + 1 → scan_reader_unit.f (k + 1) s a e = scan_reader_unit.j0 (k + 1) n true false s ((s.size - l1.length : Nat) : Int) e := by
        intro k hk
        rw [hun _ hk, if_neg (by omega), decide_eq_false (by omega)]
      by_cases h2 : 56320 ≤ n
      · have hval : unitL (rest s a) = .error 6 := by rw [hval0, if_pos h2]
        rw [hval]
        refine ⟨((s.size - l1.length : Nat) : Int), K + 1, fun k hk => ?_⟩
        obtain ⟨k, rfl⟩ : ∃ m, k = m + 1 := ⟨k - 1, by omega⟩
        simp only
        rw [hj _ (by omega), scan_reader_unit.j0, if_neg Bool.false_ne_true, if_pos (by omega)]
      · have hval : unitL (rest s a) = pairL n l1 := by rw [hval0, if_neg h2]
        rw [hval]
        rw [hb1] at hj
        have hj2 : ∀ k, K ≤ k + 1 → scan_reader_unit.f (k + 1) s a e = (scan_reader_want.f s ((a + p.length : Nat) : Int) e 92).bind fun bt118 => (if bt118.1 = true then ((scan_reader_want.f bt118.2.1 bt118.2.2.1 bt118.2.2.2 117).bind fun bt122 => (scan_reader_unit.j1 k n (!bt122.1) bt122.2.1 bt122.2.2.1 bt122.2.2.2)) else (scan_reader_unit.j1 k n true bt118.2.1 bt118.2.2.1 bt118.2.2.2)) := by
          intro k hk
          rw [hj _ hk, scan_reader_unit.j0, if_neg Bool.false_ne_true, if_neg (by omega)]
        cases h1 : l1 with
        | nil =>
          refine ⟨((a + p.length : Nat) : Int), K + 2, fun k hk => ?_⟩
          obtain ⟨k, rfl⟩ : ∃ m, k = m + 2 := ⟨k - 2, by omega⟩
          simp only
          rw [hj2 _ (by omega), want_nil e 92 hb2 (hb3.trans h1)]
          simp only [Option.bind_some]
          rw [if_neg Bool.false_ne_true, scan_reader_unit.j1, if_pos rfl]
        | cons c l2 =>
          have hr1 := hb3.trans h1
          obtain ⟨q1, _, q3, q4⟩ := rest_cons hr1
          by_cases hc : c ≠ 92
          · rw [show pairL n (c :: l2) = .error 6 by simp only [pairL]; rw [if_pos hc]]
            refine ⟨((a + p.length + 1 : Nat) : Int), K + 2, fun k hk => ?_⟩
            obtain ⟨k, rfl⟩ : ∃ m, k = m + 2 := ⟨k - 2, by omega⟩
            simp only
            rw [hj2 _ (by omega), want_not e 92 hs hr1 (nat_ne (n := 92) hc (by decide))]
            simp only [Option.bind_some]
            rw [if_neg Bool.false_ne_true, scan_reader_unit.j1, if_pos rfl]
          · obtain rfl : c = 92 := by simpa using hc
            have hj3 : ∀ k, K ≤ k + 1 → scan_reader_unit.f (k + 1) s a e = (scan_reader_want.f s ((a + p.length + 1 : Nat) : Int) e 117).bind fun bt122 => (scan_reader_unit.j1 k n (!bt122.1) bt122.2.1 bt122.2.2.1 bt122.2.2.2) := by
              intro k hk
              rw [hj2 _ hk, want_is e 92 hs hr1 rfl]
              rfl
            cases h2 : l2 with
            | nil =>
              rw [show pairL n [92] = .error 3 from rfl]
              refine ⟨((a + p.length + 1 : Nat) : Int), K + 2, fun k hk => ?_⟩
              obtain ⟨k, rfl⟩ : ∃ m, k = m + 2 := ⟨k - 2, by omega⟩
              simp only
              rw [hj3 _ (by omega), want_nil e 117 q1 (q3.trans h2)]
              simp only [Option.bind_some, Bool.not_false]
              rw [scan_reader_unit.j1, if_pos rfl]
            | cons d l3 =>
              have hr2 := q3.trans h2
              obtain ⟨s1, _, s3, s4⟩ := rest_cons hr2
              by_cases hd : d ≠ 117
              · rw [show pairL n (92 :: d :: l3) = .error 6 by simp only [pairL]; rw [if_neg (by decide), if_pos hd]]
                refine ⟨((a + p.length + 1 + 1 : Nat) : Int), K + 2, fun k hk => ?_⟩
                obtain ⟨k, rfl⟩ : ∃ m, k = m + 2 := ⟨k - 2, by omega⟩
                simp only
                rw [hj3 _ (by omega), want_not e 117 hs hr2 (nat_ne (n := 117) hd (by decide))]
                simp only [Option.bind_some, Bool.not_false]
                rw [scan_reader_unit.j1, if_pos rfl]
              · obtain rfl : d = 117 := by simpa using hd
                rw [show pairL n (92 :: 117 :: l3) = lowL n l3 from rfl]
                have hj4 : ∀ k, K ≤ k + 1 → scan_reader_unit.f (k + 1) s a e = scan_reader_unit.j1 k n false s ((a + p.length + 1 + 1 : Nat) : Int) e := by
                  intro k hk
                  rw [hj3 _ hk, want_is e 117 hs hr2 rfl]
                  rfl
                have hlow := low_res hs e (n := n) (a := a + p.length + 1 + 1) (by omega) (by omega) s1
                rw [s3] at hlow
                have lift : ∀ r, Ev (fun k => scan_reader_unit.j1 k n false s ((a + p.length + 1 + 1 : Nat) : Int) e) r → Ev (fun k => scan_reader_unit.f k s a e) r := by
                  rintro r ⟨K', hK'⟩
                  refine ⟨K + K' + 1, fun k hk => ?_⟩
                  obtain ⟨k, rfl⟩ : ∃ m, k = m + 1 := ⟨k - 1, by omega⟩
                  simp only
                  rw [hj4 _ (by omega)]
                  exact hK' k (by omega)
                cases hq : lowL n l3 with
                | error c' =>
                  rw [hq] at hlow
                  obtain ⟨a', h'⟩ := hlow
                  exact ⟨a', lift _ h'⟩
                | ok y =>
                  rw [hq] at hlow
                  exact lift _ hlow
end Go.Proofs.YtfmenojhojmedaaDoorV
