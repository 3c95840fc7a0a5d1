/- What scan.Unquote's function tells is what the literal's grammar tells. -/
import Derived.Test.YtfmenojhojmedaaDoorU3
set_option linter.unusedVariables false
set_option linter.unusedSimpArgs false
namespace Go.Proofs.YtfmenojhojmedaaDoorV
open Go.RowKit Go.Lib Go.Proofs.YtfmenojhojmedaaDoorU Go.Proofs.YtfmenojhojmedaaDoorG Go.Proofs.YtfmenojhojmedaaDoorX Go.Proofs.YtfmenojhojmedaaDoor.PR Go.Proofs.YtfmenojhojmedaaDoorW.PrintWords
theorem esc_is {s : ByteArray} {a b e e' c : Int} {k : Nat} (h : scan_reader_next.f s a e = some (c, true, s, b, e')) : scan_reader_escape.f k s a e = if c = 34 then scan_reader_escape.j0 k c c (c == 34) s b e' else if c = 92 then scan_reader_escape.j0 k c c (c == 92) s b e' else scan_reader_escape.j0 k c c (c == 47) s b e' := by
  rw [scan_reader_escape.f, h, Option.bind_some]
  exact if_pos rfl
theorem esc_bad {s : ByteArray} {a b e e' : Int} {k : Nat} (h : scan_reader_next.f s a e = some (0, false, s, b, e')) : scan_reader_escape.f k s a e = some (0, false, s, b, e') := by
  rw [scan_reader_escape.f, h, Option.bind_some]
  exact if_neg Bool.false_ne_true
theorem esc_u {s : ByteArray} {b e : Int} {k : Nat} : scan_reader_escape.j0 (k + 1) 117 117 false s b e = scan_reader_unit.f k s b e := by
  rw [scan_reader_escape.j0, if_neg Bool.false_ne_true, if_neg (by decide), if_neg (by decide), if_neg (by decide), if_neg (by decide), if_neg (by decide), if_pos rfl]
  cases scan_reader_unit.f k s b e with
  | none => rfl
  | some x => rfl
theorem nx {c : UInt8} {x : Int} (n : Nat) (h : c ≠ UInt8.ofNat n) (hn : n < 256) (hx : (n : Int) = x) : ¬ (c.toNat : Int) = x := by
  rw [← hx]
  exact nat_ne h hn
theorem ny {c : UInt8} {x : Int} (n : Nat) (hn : n < 256) (hx : (n : Int) = x) : (c.toNat : Int) = x ↔ c = UInt8.ofNat n := by
  subst hx
  constructor
  · intro h
    have : c.toNat = n := by omega
    rw [← this, UInt8.ofNat_toNat]
  · rintro rfl
    rw [UInt8.toNat_ofNat']
    have : n % 2 ^ 8 = n := Nat.mod_eq_of_lt hn
    omega
theorem esc_res {s : ByteArray} (hs : s.size ≤ 1000000) (e : Int) {a : Nat} (ha : a ≤ s.size) : Res s e (escL (rest s a)) (fun k => scan_reader_escape.f k s a e) := by
  cases hr : rest s a with
  | nil => exact ⟨a, 0, fun k _ => esc_bad (next_nil e ha hr)⟩
  | cons c l =>
    obtain ⟨ha2, _, hl, hsz⟩ := rest_cons hr
    have hf := fun k => esc_is (k := k) (next_cons e hs hr)
    have one : ∀ q : Nat, escL (c :: l) = .ok (q, l) → (∀ k, scan_reader_escape.f (k + 1) s a e = some ((q : Int), true, s, ((a + 1 : Nat) : Int), e)) → Res s e (escL (c :: l)) (fun k => scan_reader_escape.f k s a e) := by
      intro q hq h
      rw [hq]
      refine ⟨1, fun k hk => ?_⟩
      obtain ⟨k, rfl⟩ : ∃ m, k = m + 1 := ⟨k - 1, by omega⟩
      rw [hsz]
      exact h k
    have hw : wrap32 (c.toNat : Int) = (c.toNat : Int) := by have := c.toNat_lt; unfold wrap32; omega
    by_cases h34 : c = 34
    · refine one c.toNat (by simp only [escL]; rw [if_pos (.inl h34)]) fun k => ?_
      rw [hf, if_pos ((ny (x := 34) 34 (by decide) rfl).2 h34), h34, scan_reader_escape.j0, if_pos (by rfl)]
      rw [h34] at hw
      rw [hw]
    by_cases h92 : c = 92
    · refine one c.toNat (by simp only [escL]; rw [if_pos (.inr (.inl h92))]) fun k => ?_
      rw [hf, if_neg (nx (x := 34) 34 h34 (by decide) rfl), if_pos ((ny (x := 92) 92 (by decide) rfl).2 h92), h92, scan_reader_escape.j0, if_pos (by rfl)]
      rw [h92] at hw
      rw [hw]
    by_cases h47 : c = 47
    · refine one c.toNat (by simp only [escL]; rw [if_pos (.inr (.inr h47))]) fun k => ?_
      rw [hf, if_neg (nx (x := 34) 34 h34 (by decide) rfl), if_neg (nx (x := 92) 92 h92 (by decide) rfl), h47, scan_reader_escape.j0, if_pos (by rfl)]
      rw [h47] at hw
      rw [hw]
    have h47i : ((c.toNat : Int) == 47) = false := by
      have := nx (x := 47) 47 h47 (by decide) rfl
      simpa using this
    have hg : ∀ k, scan_reader_escape.f k s a e = scan_reader_escape.j0 k (c.toNat : Int) (c.toNat : Int) false s ((a + 1 : Nat) : Int) e := fun k => by
      rw [hf, if_neg (nx (x := 34) 34 h34 (by decide) rfl), if_neg (nx (x := 92) 92 h92 (by decide) rfl), h47i]
    have hL : ∀ l', escL (c :: l') = if c = 98 then .ok (8, l') else if c = 102 then .ok (12, l') else if c = 110 then .ok (10, l') else if c = 114 then .ok (13, l') else if c = 116 then .ok (9, l') else if c = 117 then unitL l' else .error 5 := fun l' => by
      simp only [escL]
      rw [if_neg (by simp [h34, h92, h47])]
    by_cases h98 : c = 98
    · subst h98
      exact one 8 rfl fun k => by rw [hg]; rfl
    by_cases h102 : c = 102
    · subst h102
      exact one 12 rfl fun k => by rw [hg]; rfl
    by_cases h110 : c = 110
    · subst h110
      exact one 10 rfl fun k => by rw [hg]; rfl
    by_cases h114 : c = 114
    · subst h114
      exact one 13 rfl fun k => by rw [hg]; rfl
    by_cases h116 : c = 116
    · subst h116
      exact one 9 rfl fun k => by rw [hg]; rfl
    by_cases h117 : c = 117
    · subst h117
      have hu := unit_res hs e (a := a + 1) ha2
      rw [hl] at hu
      rw [show escL (117 :: l) = unitL l from rfl]
      have lift : ∀ r, Ev (fun k => scan_reader_unit.f k s ((a + 1 : Nat) : Int) e) r → Ev (fun k => scan_reader_escape.f k s a e) r := by
        rintro r ⟨K, hK⟩
        refine ⟨K + 1, fun k hk => ?_⟩
        obtain ⟨k, rfl⟩ : ∃ m, k = m + 1 := ⟨k - 1, by omega⟩
        have h := hg (k + 1)
        have e1 : (((117 : UInt8).toNat : Nat) : Int) = 117 := rfl
        rw [e1, esc_u] at h
        exact h.trans (hK k (by omega))
      cases hq : unitL l with
      | error c' =>
        rw [hq] at hu
        obtain ⟨a', h'⟩ := hu
        exact ⟨a', lift _ h'⟩
      | ok y =>
        rw [hq] at hu
        exact lift _ hu
    · rw [show escL (c :: l) = .error 5 by rw [hL, if_neg h98, if_neg h102, if_neg h110, if_neg h114, if_neg h116, if_neg h117]]
      refine ⟨((a + 1 : Nat) : Int), 1, fun k hk => ?_⟩
      obtain ⟨k, rfl⟩ : ∃ m, k = m + 1 := ⟨k - 1, by omega⟩
      (try dsimp only)
      rw [hg, scan_reader_escape.j0, if_neg Bool.false_ne_true, if_neg (nx (x := 98) 98 h98 (by decide) rfl), if_neg (nx (x := 102) 102 h102 (by decide) rfl), if_neg (nx (x := 110) 110 h110 (by decide) rfl), if_neg (nx (x := 114) 114 h114 (by decide) rfl), if_neg (nx (x := 116) 116 h116 (by decide) rfl), if_neg (nx (x := 117) 117 h117 (by decide) rfl)]
theorem go_dec {s : ByteArray} {a : Nat} (ha : a < s.size) : decodeGo (s.extract a s.size) = decodeL (rest s a) := by
  have hsz : (s.extract a s.size).size = s.size - a := by simp
  unfold decodeGo
  rw [if_neg (by omega)]
  have h := decodeL_drop (s.extract a s.size) 0
  rw [← h, List.drop_zero]
  unfold rest
  congr 1
  simp
  exact List.take_of_length_le (by rw [List.length_drop, size_list]; exact Nat.le_refl _)
/-- What Unquote's rounds answer, at what the grammar tells. -/
def UnqAns (s : ByteArray) : Rd (List UInt8) → ByteArray × Int × Int
  | .error c => (⟨#[]⟩, 0, c)
  | .ok (x, t) => (⟨x.toArray⟩, ((s.size - t.length : Nat) : Int), 0)
/-- A step of l0, by the byte. -/
theorem unq_none {s : ByteArray} {a : Nat} {acc : List UInt8} (e : Int) (k : Nat) (h1 : 1 ≤ a) (ha : a ≤ s.size) (hacc : acc.length ≤ 100000000) (h : rest s a = []) : scan_Unquote.l0 (k + 1) s a e acc = some (⟨#[]⟩, 0, 3) := by
  rw [scan_Unquote.l0, next_nil e ha h]
  simp only [Option.bind_some]
  rw [if_pos ⟨trivial, by omega, by omega, hacc, by decide⟩, if_neg Bool.false_ne_true]
  rfl
theorem unq_some {s : ByteArray} {a : Nat} {acc : List UInt8} {c : UInt8} {l : List UInt8} (e : Int) (k : Nat) (hs : s.size ≤ 1000000) (hacc : acc.length ≤ 100000000) (h : rest s a = c :: l) :
    scan_Unquote.l0 (k + 1) s a e acc = (if (c.toNat : Int) = 34 then some (⟨acc.toArray⟩, ((a + 1 : Nat) : Int), 0)
        else if (c.toNat : Int) < 32 then unqBad 5
        else if (c.toNat : Int) = 92 then (scan_reader_escape.f k s ((a + 1 : Nat) : Int) e).bind fun x =>
          if x.2.1 = true then (if x.2.2.1 = s ∧ 0 ≤ x.1 ∧ x.1 ≤ 2147483647 then scan_Unquote.l0 k s x.2.2.2.1 x.2.2.2.2 (acc ++ Lib.encodeRune x.1) else none)
          else unqBad x.2.2.2.2
        else if (Lib.decodeGo (s.extract a s.size)).1 = 65533 ∧ (Lib.decodeGo (s.extract a s.size)).2 < 2 then unqBad 6
        else if 0 ≤ (Lib.decodeGo (s.extract a s.size)).2 ∧ (Lib.decodeGo (s.extract a s.size)).2 ≤ 4 ∧ 0 ≤ (Lib.decodeGo (s.extract a s.size)).1 ∧ (Lib.decodeGo (s.extract a s.size)).1 ≤ 2147483647 then
          scan_Unquote.l0 k s (((a + 1 : Nat) : Int) + ((Lib.decodeGo (s.extract a s.size)).2 - 1)) e (acc ++ Lib.encodeRune (Lib.decodeGo (s.extract a s.size)).1)
        else none) := by
  obtain ⟨ha2, _, hl, hsz⟩ := rest_cons h
  have e1 : ((a + 1 : Nat) : Int).toNat - 1 = a := by omega
  have e2 : (c.toNat : Int) < 256 := by have := c.toNat_lt; omega
  rw [scan_Unquote.l0, next_cons e hs h, Option.bind_some]
  dsimp only
  rw [if_pos ⟨rfl, by omega, by omega, hacc, e2⟩, if_pos rfl, e1]
theorem unq_loop {s : ByteArray} (hs : s.size ≤ 1000000) (e : Int) : ∀ (m a : Nat) (acc : List UInt8), (rest s a).length < m → 1 ≤ a → a ≤ s.size → acc.length ≤ 4 * a → Ev (fun k => scan_Unquote.l0 k s a e acc) (UnqAns s (unqL m (rest s a) acc))
  | 0, a, acc, hm, _, _, _ => by omega
  | m + 1, a, acc, hm, h1, ha, hacc => by
    cases hr : rest s a with
    | nil =>
      rw [show unqL (m + 1) [] acc = .error 3 from rfl]
      refine ⟨1, fun k hk => ?_⟩
      obtain ⟨k, rfl⟩ : ∃ m, k = m + 1 := ⟨k - 1, by omega⟩
      exact unq_none e k h1 ha (by omega) hr
    | cons c l =>
      obtain ⟨ha2, _, hl, hsz⟩ := rest_cons hr
      have hst := fun k => unq_some e k hs (acc := acc) (by omega) hr
      rw [hr, List.length_cons] at hm
      by_cases h34 : c = 34
      · subst h34
        rw [show unqL (m + 1) (34 :: l) acc = .ok (acc, l) from rfl]
        refine ⟨1, fun k hk => ?_⟩
        obtain ⟨k, rfl⟩ : ∃ m, k = m + 1 := ⟨k - 1, by omega⟩
        (try dsimp only)
        rw [hst]
        show _ = some ((⟨acc.toArray⟩ : ByteArray), ((s.size - l.length : Nat) : Int), 0)
        rw [hsz]
        rfl
      have hL : unqL (m + 1) (c :: l) acc = match pieceL (c :: l) with | .error e => .error e | .ok (p, l1) => unqL m l1 (acc ++ p) := by
        simp only [unqL]
        rw [if_neg (by simpa using h34)] <;> rfl
      have hst2 := fun k => (hst k).trans (if_neg (nx (x := 34) 34 h34 (by decide) rfl))
      by_cases h32 : c.toNat < 32
      · rw [show unqL (m + 1) (c :: l) acc = .error 5 by rw [hL]; simp only [pieceL]; rw [if_pos h32]]
        refine ⟨1, fun k hk => ?_⟩
        obtain ⟨k, rfl⟩ : ∃ m, k = m + 1 := ⟨k - 1, by omega⟩
        (try dsimp only)
        rw [hst2, if_pos (by omega)]
        rfl
      have hst3 := fun k => (hst2 k).trans (if_neg (by omega))
      by_cases h92 : c = 92
      · subst h92
        have hp : pieceL (92 :: l) = match escL l with | .error e => .error e | .ok (r, l1) => .ok (enc r, l1) := rfl
        have hesc := esc_res hs e (a := a + 1) ha2
        rw [hl] at hesc
        have hst4 := fun k => (hst3 k).trans (if_pos rfl)
        cases hq : escL l with
        | error c' =>
          rw [show unqL (m + 1) (92 :: l) acc = .error c' by rw [hL, hp, hq]]
          rw [hq] at hesc
          obtain ⟨a', K, hK⟩ := hesc
          refine ⟨K + 1, fun k hk => ?_⟩
          obtain ⟨k, rfl⟩ : ∃ m, k = m + 1 := ⟨k - 1, by omega⟩
          have hk2 := hK k (by omega)
          (try dsimp only at hk2 ⊢)
          rw [hst4, hk2, Option.bind_some]
          rfl
        | ok y =>
          obtain ⟨r, l1⟩ := y
          rw [show unqL (m + 1) (92 :: l) acc = unqL m l1 (acc ++ enc r) by rw [hL, hp, hq]]
          rw [hq] at hesc
          obtain ⟨K, hK⟩ := hesc
          obtain ⟨p, hpl, _, hsc, _⟩ := escL_ok hq
          obtain ⟨b1, b2, b3⟩ := rest_back (hl.trans hpl) ha2
          have hen := (enc_len hsc).2
          have hlen : l.length = p.length + l1.length := by rw [hpl, List.length_append]
          have ih := unq_loop hs e m (a + 1 + p.length) (acc ++ enc r) (by rw [b3]; omega) (by omega) b2 (by rw [List.length_append]; omega)
          rw [b3] at ih
          obtain ⟨K', hK'⟩ := ih
          refine ⟨K + K' + 1, fun k hk => ?_⟩
          obtain ⟨k, rfl⟩ : ∃ m, k = m + 1 := ⟨k - 1, by omega⟩
          have hk2 := hK k (by omega)
          have hk3 := hK' k (by omega)
          (try dsimp only at hk2 hk3 ⊢)
          rw [hst4, hk2, Option.bind_some]
          have hr32 : 0 ≤ (r : Int) ∧ (r : Int) ≤ 2147483647 := by unfold scalar at hsc; omega
          refine (if_pos rfl).trans ((if_pos ⟨rfl, hr32.1, hr32.2⟩).trans ?_)
          rw [b1]
          exact hk3
      · have hst4 := fun k => (hst3 k).trans (if_neg (nx (x := 92) 92 h92 (by decide) rfl))
        have hp : pieceL (c :: l) = match dec (c :: l) with | none => .error 6 | some (p, l1) => .ok (p, l1) := by
          simp only [pieceL]
          rw [if_neg h32, if_neg h92] <;> rfl
        have hgo := go_dec ha2
        rw [hr] at hgo
        rw [hgo] at hst4
        have hw1 := decodeL_width (c :: l)
        cases hd : dec (c :: l) with
        | none =>
          rw [show unqL (m + 1) (c :: l) acc = .error 6 by rw [hL, hp, hd]]
          have hbad : (decodeL (c :: l)).1 = 65533 ∧ (decodeL (c :: l)).2 = 1 := by
            unfold dec at hd
            by_cases hc : c :: l = [] ∨ (decodeL (c :: l)).1 = 65533 ∧ (decodeL (c :: l)).2 = 1
            · rcases hc with hc | hc
              · simp at hc
              · exact hc
            · rw [if_neg hc] at hd; simp at hd
          refine ⟨1, fun k hk => ?_⟩
          obtain ⟨k, rfl⟩ : ∃ m, k = m + 1 := ⟨k - 1, by omega⟩
          (try dsimp only)
          rw [hst4, if_pos ⟨hbad.1, by omega⟩]
          rfl
        | some y =>
          obtain ⟨p, l1⟩ := y
          rw [show unqL (m + 1) (c :: l) acc = unqL m l1 (acc ++ p) by rw [hL, hp, hd]]
          obtain ⟨r, hsc, rfl, hpl⟩ := dec_some hd
          have hdl := decodeL_enc hsc l1
          rw [← hpl] at hdl
          obtain ⟨b1, b2, b3⟩ := rest_back (hr.trans hpl) ha
          have hen := enc_len hsc
          have hlen : l.length + 1 = (enc r).length + l1.length := by rw [← List.length_append, ← hpl, List.length_cons]
          have ih := unq_loop hs e m (a + (enc r).length) (acc ++ enc r) (by rw [b3]; omega) (by omega) b2 (by rw [List.length_append]; omega)
          rw [b3] at ih
          obtain ⟨K', hK'⟩ := ih
          rw [hdl] at hst4
          refine ⟨K' + 1, fun k hk => ?_⟩
          obtain ⟨k, rfl⟩ : ∃ m, k = m + 1 := ⟨k - 1, by omega⟩
          have hk3 := hK' k (by omega)
          (try dsimp only at hk3 ⊢)
          have hnb : ¬ (r = 65533 ∧ (enc r).length < 2) := by
            rintro ⟨rfl, h2⟩
            exact absurd h2 (by decide)
          have hr32 : r ≤ 2147483647 := by unfold scalar at hsc; omega
          have epos : ((a + 1 : Nat) : Int) + (((enc r).length : Int) - 1) = ((a + (enc r).length : Nat) : Int) := by omega
          rw [hst4]
          dsimp only
          rw [if_neg (by exact hnb)]
          rw [if_pos (by refine ⟨?_, ?_, ?_, ?_⟩ <;> omega)]
          rw [epos]
          exact hk3
/-- THE WHOLE. -/
theorem unq_val {s : ByteArray} (hs : s.size ≤ 1000000) : Ev (fun k => scan_Unquote.f k s) (UnqAns s (litL s.data.toList)) := by
  have h0 : s.data.toList = rest s 0 := rfl
  rw [h0]
  cases hr : rest s 0 with
  | nil =>
    refine ⟨0, fun k _ => ?_⟩
    (try dsimp only)
    unfold scan_Unquote.f
    have hn := next_nil 0 (Nat.zero_le _) hr
    rw [if_pos hs]
    rw [show ((0 : Nat) : Int) = 0 from rfl] at hn
    rw [hn, Option.bind_some]
    exact (if_pos rfl).trans (if_neg Bool.false_ne_true)
  | cons c l =>
    obtain ⟨ha2, _, hl, hsz⟩ := rest_cons hr
    have hn := next_cons 0 hs hr
    rw [show ((0 : Nat) : Int) = 0 from rfl] at hn
    by_cases h34 : c = 34
    · subst h34
      rw [show litL (34 :: l) = unqL (l.length + 1) l [] from rfl]
      have h := unq_loop hs 0 (l.length + 1) 1 [] (by rw [hl]; omega) (by omega) ha2 (by simp)
      rw [hl] at h
      obtain ⟨K, hK⟩ := h
      refine ⟨K, fun k hk => ?_⟩
      have hk2 := hK k hk
      (try dsimp only at hk2 ⊢)
      unfold scan_Unquote.f
      rw [if_pos hs, hn, Option.bind_some]
      exact (if_pos rfl).trans ((if_pos rfl).trans ((if_pos rfl).trans hk2))
    · rw [show litL (c :: l) = .error 5 by simp only [litL]; rw [if_neg h34]]
      refine ⟨0, fun k _ => ?_⟩
      (try dsimp only)
      unfold scan_Unquote.f
      rw [if_pos hs, hn, Option.bind_some]
      exact (if_pos rfl).trans ((if_pos rfl).trans (if_neg (nx (x := 34) 34 h34 (by decide) rfl)))
end Go.Proofs.YtfmenojhojmedaaDoorV
