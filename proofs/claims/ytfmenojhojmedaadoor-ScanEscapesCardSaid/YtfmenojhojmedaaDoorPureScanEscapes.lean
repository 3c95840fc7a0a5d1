import Derived.Test.YtfmenojhojmedaaDoorPAx6
import Derived.Test.YtfmenojhojmedaaDoorU6
set_option linter.unusedVariables false
set_option linter.unusedSimpArgs false
namespace Go.Proofs.YtfmenojhojmedaaDoor.Pure
open Go.RowKit Go.Lib Go.Proofs.YtfmenojhojmedaaDoor.PA Go.Proofs.YtfmenojhojmedaaDoorG Go.Proofs.YtfmenojhojmedaaDoorX Go.Proofs.YtfmenojhojmedaaDoorU
open Go.Proofs.YtfmenojhojmedaaDoorV hiding size_list
open Go.Proofs.YtfmenojhojmedaaDoorW.PrintWords hiding encs encs_append
theorem pick_valE (n m : Int) (hm : 1 ≤ m) (hM : m ≤ 4611686018427387904) : outlawkit_Pick.f n m = some (n % m) := pick_of (fun _ _ => rfl) n m hm hM
/-- A digit to the base 16, small or great. -/
def hexc (g : Bool) (d : Nat) : UInt8 := if g = true then ([48, 49, 50, 51, 52, 53, 54, 55, 56, 57, 65, 66, 67, 68, 69, 70] : List UInt8).getD d 0 else ([48, 49, 50, 51, 52, 53, 54, 55, 56, 57, 97, 98, 99, 100, 101, 102] : List UInt8).getD d 0
theorem hexc_v : ∀ (g : Bool) (d : Fin 16), hexV (hexc g d.val) = some d.val := by decide +kernel
theorem hexc_of (g : Bool) {d : Nat} (h : d < 16) : hexV (hexc g d) = some d := hexc_v g ⟨d, h⟩
theorem bt_great : ∀ d : Fin 16, UInt8.ofNat (bt (⟨#[48, 49, 50, 51, 52, 53, 54, 55, 56, 57, 65, 66, 67, 68, 69, 70]⟩ : ByteArray) ((d.val : Nat) : Int)).toNat = hexc true d.val := by decide +kernel
theorem bt_small : ∀ d : Fin 16, UInt8.ofNat (bt (⟨#[48, 49, 50, 51, 52, 53, 54, 55, 56, 57, 97, 98, 99, 100, 101, 102]⟩ : ByteArray) ((d.val : Nat) : Int)).toNat = hexc false d.val := by decide +kernel
def dig (g : Bool) (n : Nat) : List UInt8 := [hexc g (n / 4096 % 16), hexc g (n / 256 % 16), hexc g (n / 16 % 16), hexc g (n % 16)]
theorem dg (n q : Nat) (hn : n < 65536) : Int.tmod (wrap64 (Int.tdiv (n : Int) (q : Int))) 16 = ((n / q % 16 : Nat) : Int) := by
  have h1 : Int.tdiv (n : Int) (q : Int) = ((n / q : Nat) : Int) := (Int.ofNat_tdiv n q).symm
  have h2 : n / q ≤ n := Nat.div_le_self n q
  rw [h1]
  generalize n / q = m at h2
  have h3 : wrap64 (m : Int) = (m : Int) := by unfold wrap64; omega
  rw [h3]
  exact (Int.ofNat_tmod m 16).symm
theorem dg0 (n : Nat) : Int.tmod (n : Int) 16 = ((n % 16 : Nat) : Int) := (Int.ofNat_tmod n 16).symm
theorem digits_val (n : Nat) (hn : n < 65536) (g : Bool) : outlawlaw01_digits.f (n : Int) g = some (mk (dig g n)) := by
  have d1 := dg n 4096 hn
  have d2 := dg n 256 hn
  have d3 := dg n 16 hn
  have d4 := dg0 n
  have l1 : n / 4096 % 16 < 16 := by omega
  have l2 : n / 256 % 16 < 16 := by omega
  have l3 : n / 16 % 16 < 16 := by omega
  have l4 : n % 16 < 16 := by omega
  rw [show ((4096 : Nat) : Int) = 4096 from rfl] at d1
  rw [show ((256 : Nat) : Int) = 256 from rfl] at d2
  rw [show ((16 : Nat) : Int) = 16 from rfl] at d3
  unfold outlawlaw01_digits.f
  rw [d1, d2, d3, d4]
  cases g with
  | true =>
    rw [if_pos rfl, if_pos (by omega), if_pos (by omega), if_pos (by omega), if_pos (by omega), if_pos (by omega), if_pos (by omega), if_pos (by omega), if_pos (by omega)]
    congr 1
    apply bytes_ext
    rw [strOfNums_data, mk_list]
    simp only [List.map_cons, List.map_nil, dig]
    rw [bt_great ⟨_, l1⟩, bt_great ⟨_, l2⟩, bt_great ⟨_, l3⟩, bt_great ⟨_, l4⟩]
  | false =>
    rw [if_neg Bool.false_ne_true, if_pos (by omega), if_pos (by omega), if_pos (by omega), if_pos (by omega), if_pos (by omega), if_pos (by omega), if_pos (by omega), if_pos (by omega)]
    congr 1
    apply bytes_ext
    rw [strOfNums_data, mk_list]
    simp only [List.map_cons, List.map_nil, dig]
    rw [bt_small ⟨_, l1⟩, bt_small ⟨_, l2⟩, bt_small ⟨_, l3⟩, bt_small ⟨_, l4⟩]
theorem hexN_dig {n : Nat} (hn : n < 65536) (g : Bool) (t : List UInt8) : hexN 4 0 (dig g n ++ t) = .ok (n, t) := by
  simp only [dig, List.cons_append, List.nil_append, hexN]
  rw [hexc_of g (by omega)]
  simp only
  rw [hexc_of g (by omega)]
  simp only
  rw [hexc_of g (by omega)]
  simp only
  rw [hexc_of g (by omega)]
  simp only
  rw [show (((0 * 16 + n / 4096 % 16) * 16 + n / 256 % 16) * 16 + n / 16 % 16) * 16 + n % 16 = n by omega]
/-- A code point's literal, by its numbers. -/
def inside (g : Bool) (r : Nat) : List UInt8 := if r < 65536 then dig g r else dig g (55296 + (r - 65536) / 1024) ++ 92 :: 117 :: dig g (56320 + (r - 65536) % 1024)
def litOf (g : Bool) (r : Nat) : ByteArray := mk (34 :: 92 :: 117 :: (inside g r ++ [34]))
theorem unit_in {r : Nat} (h : scalar r) (g : Bool) (t : List UInt8) : unitL (inside g r ++ t) = .ok (r, t) := by
  unfold inside
  by_cases c : r < 65536
  · rw [if_pos c]
    unfold unitL
    rw [hexN_dig c]
    simp only
    rw [if_pos (by unfold scalar at h; omega)]
  · rw [if_neg c]
    have hr : r ≤ 1114111 := by unfold scalar at h; omega
    rw [List.append_assoc]
    unfold unitL
    rw [hexN_dig (by omega)]
    simp only
    rw [if_neg (by omega), if_neg (by omega)]
    rw [show pairL (55296 + (r - 65536) / 1024) (92 :: 117 :: dig g (56320 + (r - 65536) % 1024) ++ t) = lowL (55296 + (r - 65536) / 1024) (dig g (56320 + (r - 65536) % 1024) ++ t) from rfl]
    unfold lowL
    rw [hexN_dig (by omega)]
    simp only
    rw [if_neg (by omega)]
    rw [show 65536 + (55296 + (r - 65536) / 1024 - 55296) * 1024 + (56320 + (r - 65536) % 1024 - 56320) = r by omega]
theorem lit_u {l : List UInt8} {r : Nat} (h : unitL l = .ok (r, [34])) : litL (34 :: 92 :: 117 :: l) = .ok (enc r, []) := by
  have hp : pieceL (92 :: 117 :: l) = .ok (enc r, [34]) := by
    rw [show pieceL (92 :: 117 :: l) = (match unitL l with | .error e => .error e | .ok (r, l1) => .ok (enc r, l1)) from rfl, h]
  rw [show litL (34 :: 92 :: 117 :: l) = unqL (l.length + 1 + 1 + 1) (92 :: 117 :: l) [] from rfl]
  rw [show unqL (l.length + 1 + 1 + 1) (92 :: 117 :: l) [] = (match pieceL (92 :: 117 :: l) with | .error e => .error e | .ok (p, l1) => unqL (l.length + 1 + 1) l1 ([] ++ p)) from rfl, hp]
  rfl
theorem lit_u_bad {l : List UInt8} {c : Int} (h : unitL l = .error c) : litL (34 :: 92 :: 117 :: l) = .error c := by
  have hp : pieceL (92 :: 117 :: l) = .error c := by
    rw [show pieceL (92 :: 117 :: l) = (match unitL l with | .error e => .error e | .ok (r, l1) => .ok (enc r, l1)) from rfl, h]
  rw [show litL (34 :: 92 :: 117 :: l) = unqL (l.length + 1 + 1 + 1) (92 :: 117 :: l) [] from rfl]
  rw [show unqL (l.length + 1 + 1 + 1) (92 :: 117 :: l) [] = (match pieceL (92 :: 117 :: l) with | .error e => .error e | .ok (p, l1) => unqL (l.length + 1 + 1) l1 ([] ++ p)) from rfl, hp]
theorem half_bad {h : Nat} (h1 : 55296 ≤ h) (h2 : h ≤ 57343) (g : Bool) : unitL (dig g h ++ [34]) = .error 6 := by
  unfold unitL
  rw [hexN_dig (by omega)]
  simp only
  rw [if_neg (by omega)]
  by_cases c : 56320 ≤ h
  · rw [if_pos c]
  · rw [if_neg c]
    rfl
theorem s3 : (⟨#[34, 92, 117]⟩ : ByteArray).size = 3 := rfl
theorem s2 : (⟨#[92, 117]⟩ : ByteArray).size = 2 := rfl
theorem sd (g : Bool) (n : Nat) : (mk (dig g n)).size = 4 := by rw [mk_size]; rfl
theorem unq_lit {r : Nat} (h : scalar r) (g : Bool) : Ev (fun k => scan_Unquote.f k (litOf g r)) (mk (enc r), ((litOf g r).size : Int), 0) := by
  have hs : (litOf g r).size ≤ 1000000 := by
    unfold litOf inside
    rw [mk_size]
    split <;> simp [dig]
  have hv := unq_val hs
  have e : (litOf g r).data.toList = 34 :: 92 :: 117 :: (inside g r ++ [34]) := by unfold litOf; rw [mk_list]
  rw [e, lit_u (unit_in h g [34])] at hv
  exact hv
theorem escaped_bad (c : Int) (g : Bool) (k : Nat) (h : c < 0 ∨ c > 1114111 ∨ (55296 ≤ c ∧ c ≤ 57343)) : outlawlaw01_escaped.f (k + 1) c g = some (⟨#[]⟩, false) := by
  have hj : outlawlaw01_escaped.j0 (k + 1) c g true = some (⟨#[]⟩, false) := by rw [outlawlaw01_escaped.j0, if_pos rfl]
  unfold outlawlaw01_escaped.f
  by_cases c1 : c < 0
  · rw [if_pos c1, hj]
  rw [if_neg c1]
  by_cases c2 : c > 1114111
  · rw [if_pos c2, hj]
  rw [if_neg c2, if_pos (by omega), decide_eq_true (by omega), hj]
theorem escaped_ok {r : Nat} (h : scalar r) (g : Bool) (k : Nat) : outlawlaw01_escaped.f (k + 1) (r : Int) g = some (litOf g r, true) := by
  have hj : outlawlaw01_escaped.j0 (k + 1) (r : Int) g false = some (litOf g r, true) := by
    rw [outlawlaw01_escaped.j0, if_neg Bool.false_ne_true]
    by_cases c : r < 65536
    · have e : ((⟨#[34, 92, 117]⟩ : ByteArray) ++ mk (dig g r)) ++ (⟨#[34]⟩ : ByteArray) = litOf g r := by
        apply bytes_ext
        unfold litOf inside
        rw [list_app, list_app, mk_list, mk_list, if_pos c]
        rfl
      rw [if_pos (by omega), digits_val r c g, Option.bind_some, if_pos (by rw [sd]; omega), if_pos (by rw [ByteArray.size_append, s3, sd]; omega), e]
    · have hr : r ≤ 1114111 := by unfold scalar at h; omega
      have e1 : wrap64 ((r : Int) - 65536) = ((r - 65536 : Nat) : Int) := by unfold wrap64; omega
      have e2 : Int.tdiv ((r - 65536 : Nat) : Int) 1024 = (((r - 65536) / 1024 : Nat) : Int) := (Int.ofNat_tdiv (r - 65536) 1024).symm
      have e3 : wrap64 (((r - 65536) / 1024 : Nat) : Int) = (((r - 65536) / 1024 : Nat) : Int) := by unfold wrap64; omega
      have e4 : wrap64 (55296 + (((r - 65536) / 1024 : Nat) : Int)) = ((55296 + (r - 65536) / 1024 : Nat) : Int) := by unfold wrap64; omega
      have e5 : Int.tmod ((r - 65536 : Nat) : Int) 1024 = (((r - 65536) % 1024 : Nat) : Int) := (Int.ofNat_tmod (r - 65536) 1024).symm
      have e6 : wrap64 (56320 + (((r - 65536) % 1024 : Nat) : Int)) = ((56320 + (r - 65536) % 1024 : Nat) : Int) := by unfold wrap64; omega
      have e : ((((⟨#[34, 92, 117]⟩ : ByteArray) ++ mk (dig g (55296 + (r - 65536) / 1024))) ++ (⟨#[92, 117]⟩ : ByteArray)) ++ mk (dig g (56320 + (r - 65536) % 1024))) ++ (⟨#[34]⟩ : ByteArray) = litOf g r := by
        apply bytes_ext
        unfold litOf inside
        rw [list_app, list_app, list_app, list_app, mk_list, mk_list, mk_list, if_neg c]
        simp
      rw [if_neg (by omega), e1, e2, e3, e4, digits_val _ (by omega) g, Option.bind_some, if_pos (by rw [sd]; omega), if_pos (by rw [ByteArray.size_append, s3, sd]; omega), e5, e6, digits_val _ (by omega) g, Option.bind_some, if_pos (by rw [ByteArray.size_append, ByteArray.size_append, s3, s2, sd, sd]; omega), if_pos (by rw [ByteArray.size_append, ByteArray.size_append, ByteArray.size_append, s3, s2, sd, sd]; omega), e]
  unfold outlawlaw01_escaped.f
  unfold scalar at h
  rw [if_neg (by omega), if_neg (by omega)]
  by_cases c3 : (r : Int) ≥ 55296
  · rw [if_pos c3, decide_eq_false (by omega), hj]
  · rw [if_neg c3, hj]
theorem way_bad (a0 a1 : Int) (g : Bool) (x y : ByteArray) : Ev (fun k => outlawlaw01_ScanEscapes.j0 k a0 a1 g x y true) true := by
  have hpk := pick_valE a0 2048 (by omega) (by omega)
  have hr := pick_range a0 2048 (by omega)
  obtain ⟨j, hj⟩ : ∃ j : Nat, a0 % 2048 = (j : Int) := ⟨(a0 % 2048).toNat, by omega⟩
  rw [hj] at hr hpk
  have e1 : wrap64 ((j : Int) + 55296) = ((j + 55296 : Nat) : Int) := by unfold wrap64; omega
  have e : ((⟨#[34, 92, 117]⟩ : ByteArray) ++ mk (dig g (j + 55296))) ++ (⟨#[34]⟩ : ByteArray) = mk (34 :: 92 :: 117 :: (dig g (j + 55296) ++ [34])) := by
    apply bytes_ext
    rw [list_app, list_app, mk_list, mk_list]
    rfl
  have hv := unq_val (s := mk (34 :: 92 :: 117 :: (dig g (j + 55296) ++ [34]))) (by rw [mk_size]; simp [dig])
  rw [mk_list, lit_u_bad (half_bad (by omega) (by omega) g)] at hv
  obtain ⟨K, hK⟩ := hv
  refine ⟨K + 1, fun k hk => ?_⟩
  obtain ⟨k, rfl⟩ : ∃ m, k = m + 1 := ⟨k - 1, by omega⟩
  have h1 : scan_Unquote.f k (mk (34 :: 92 :: 117 :: (dig g (j + 55296) ++ [34]))) = some (⟨#[]⟩, 0, 6) := hK k (by omega)
  (try dsimp only)
  rw [outlawlaw01_ScanEscapes.j0, if_pos rfl, hpk, Option.bind_some, e1, digits_val _ (by omega) g, Option.bind_some, if_pos (by rw [sd]; omega), if_pos (by rw [ByteArray.size_append, s3, sd]; omega), e, h1, Option.bind_some]
  rfl
theorem way_ok {r q : Nat} (hr : scalar r) (hq : scalar q) (g : Bool) : Ev (fun k => outlawlaw01_ScanEscapes.j0 k (r : Int) (q : Int) g (litOf g r) (litOf (!g) q) false) true := by
  obtain ⟨K, hK⟩ := unq_lit hr g
  obtain ⟨K', hK'⟩ := unq_lit hq (!g)
  have hl1 := enc_len hr
  have hl2 := enc_len hq
  have hv1 : scan_Valid.f (mk (enc r)) = some true := by
    rw [valid_val (by rw [mk_size]; omega), mk_list]
    have := validD_enc hr []
    rw [List.append_nil] at this
    rw [this]
    rfl
  have hv2 : scan_Valid.f (mk (enc r) ++ mk (enc q)) = some true := by
    rw [valid_val (by rw [ByteArray.size_append, mk_size, mk_size]; omega), list_app, mk_list, mk_list, validD_enc hr]
    have := validD_enc hq []
    rw [List.append_nil] at this
    rw [this]
    rfl
  have heq : ((enc r == enc q) == ((r : Int) == (q : Int))) = true := by
    by_cases c : r = q
    · subst c
      simp
    · have h1 : ¬ enc r = enc q := fun e => c (enc_inj hr hq e)
      have h2 : ¬ (r : Int) = (q : Int) := by omega
      rw [beq_eq_false_iff_ne.2 h1, beq_eq_false_iff_ne.2 h2]
      rfl
  refine ⟨K + K' + 1, fun k hk => ?_⟩
  obtain ⟨k, rfl⟩ : ∃ m, k = m + 1 := ⟨k - 1, by omega⟩
  have h1 : scan_Unquote.f k (litOf g r) = some (mk (enc r), ((litOf g r).size : Int), 0) := hK k (by omega)
  have h2 : scan_Unquote.f k (litOf (!g) q) = some (mk (enc q), ((litOf (!g) q).size : Int), 0) := hK' k (by omega)
  (try dsimp only)
  rw [outlawlaw01_ScanEscapes.j0, if_neg Bool.false_ne_true, h1, Option.bind_some, h2, Option.bind_some]
  dsimp only
  rw [if_pos rfl, if_pos rfl, if_pos rfl, if_pos rfl, mk_tl, mk_tl, if_pos heq, hv1, Option.bind_some, if_pos rfl, if_neg (enc_ne hr), if_pos (by rw [mk_size, mk_size]; omega), hv2]
  rfl
theorem good_or (c : Int) : (∃ r : Nat, c = (r : Int) ∧ scalar r) ∨ (c < 0 ∨ c > 1114111 ∨ (55296 ≤ c ∧ c ≤ 57343)) := by
  by_cases h : c < 0 ∨ c > 1114111 ∨ (55296 ≤ c ∧ c ≤ 57343)
  · exact .inr h
  · exact .inl ⟨c.toNat, by omega, by unfold scalar; omega⟩
theorem ScanEscapes : outlawlaw01_ScanEscapes.Pure := by
  intro a0 a1 g _ _
  refine Ev.rounds (g := fun k => outlawlaw01_ScanEscapes.f k a0 a1 g) ?_
  have hf : ∀ k x y b c, outlawlaw01_escaped.f k a0 g = some (x, b) → outlawlaw01_escaped.f k a1 (!g) = some (y, c) → outlawlaw01_ScanEscapes.f k a0 a1 g = if b = true then outlawlaw01_ScanEscapes.j0 k a0 a1 g x y (!c) else outlawlaw01_ScanEscapes.j0 k a0 a1 g x y true := by
    intro k x y b c h1 h2
    unfold outlawlaw01_ScanEscapes.f
    rw [lives_val, Option.bind_some]
    refine (if_pos rfl).trans ?_
    rw [h1, Option.bind_some, h2, Option.bind_some]
  have fin : ∀ x y b c (z : Bool), (∀ k, outlawlaw01_escaped.f (k + 1) a0 g = some (x, b)) → (∀ k, outlawlaw01_escaped.f (k + 1) a1 (!g) = some (y, c)) → (if b = true then (!c) else true) = z → Ev (fun k => outlawlaw01_ScanEscapes.j0 k a0 a1 g x y z) true → Ev (fun k => outlawlaw01_ScanEscapes.f k a0 a1 g) true := by
    rintro x y b c z h1 h2 rfl ⟨K, hK⟩
    refine ⟨K + 1, fun k hk => ?_⟩
    obtain ⟨k, rfl⟩ : ∃ m, k = m + 1 := ⟨k - 1, by omega⟩
    have h := hK (k + 1) (by omega)
    (try dsimp only at h ⊢)
    rw [hf (k + 1) x y b c (h1 k) (h2 k)]
    cases b with
    | true => rw [if_pos rfl]; rw [if_pos rfl] at h; exact h
    | false => rw [if_neg Bool.false_ne_true]; rw [if_neg Bool.false_ne_true] at h; exact h
  rcases good_or a0 with ⟨r, rfl, hr⟩ | h0
  · rcases good_or a1 with ⟨q, rfl, hq⟩ | h1
    · exact fin _ _ _ _ _ (escaped_ok hr g) (escaped_ok hq (!g)) rfl (way_ok hr hq g)
    · exact fin _ _ _ _ _ (escaped_ok hr g) (fun k => escaped_bad a1 (!g) k h1) rfl (way_bad _ _ _ _ _)
  · rcases good_or a1 with ⟨q, rfl, hq⟩ | h1
    · exact fin _ _ _ _ _ (fun k => escaped_bad a0 g k h0) (escaped_ok hq (!g)) rfl (way_bad _ _ _ _ _)
    · exact fin _ _ _ _ _ (fun k => escaped_bad a0 g k h0) (fun k => escaped_bad a1 (!g) k h1) rfl (way_bad _ _ _ _ _)
end Go.Proofs.YtfmenojhojmedaaDoor.Pure
