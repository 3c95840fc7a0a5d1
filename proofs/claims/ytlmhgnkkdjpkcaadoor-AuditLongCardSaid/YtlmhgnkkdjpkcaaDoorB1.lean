/- The contract of audit's takes: a note is followed, or refused. -/
import Derived.Test.YtlmhgnkkdjpkcaaDoorB0
import Derived.Test.YtlmhgnkkdjpkcaaDoorM0
import Derived.Lib.Hide
set_option linter.unusedVariables false
set_option linter.unusedSimpArgs false
set_option maxRecDepth 100000
namespace Go.Proofs.YtlmhgnkkdjpkcaaDoorG
open Go.RowKit Go.Proofs.YtlmhgnkkdjpkcaaDoor.PA Go.Proofs.YtlmhgnkkdjpkcaaDoorW.PrintWords Go.Proofs.YtlmhgnkkdjpkcaaDoorW.PrintLast Go.Proofs.YtlmhgnkkdjpkcaaDoorW.PrintMore Go.Proofs.YtlmhgnkkdjpkcaaDoorM Go.Proofs.YtlmhgnkkdjpkcaaDoorV
theorem eqA29_ (d : Nat) (w : World) (x0 y0 : Int) (x1 y1 : ByteArray) (x2 y2 : ByteArray) (x3 y3 : ByteArray) (x4 y4 : ByteArray) :
    (Op.equalIn (d + 2) 28 (.agg #[.int .i64 x0, .string x1, .string x2, .string x3, .string x4]) (.agg #[.int .i64 y0, .string y1, .string y2, .string y3, .string y4])).run Tryd.prog w = .ok (x0 == y0 && (x1.toList == y1.toList && (x2.toList == y2.toList && (x3.toList == y3.toList && (x4.toList == y4.toList))))) w := by
  refine eqA_of Tryd.underlying28 (by kernel_rfl) ?_
  refine eqf_cons (by rfl) (by go_simp; rfl) (by go_simp; rfl) (by go_simp) ?_
  refine eqf_cons (by rfl) (by go_simp; rfl) (by go_simp; rfl) (by go_simp) ?_
  refine eqf_cons (by rfl) (by go_simp; rfl) (by go_simp; rfl) (by go_simp) ?_
  refine eqf_cons (by rfl) (by go_simp; rfl) (by go_simp; rfl) (by go_simp) ?_
  exact eqf_last (by rfl) (by go_simp; rfl) (by go_simp; rfl) (by go_simp)
theorem eqA31_ (d : Nat) (w : World) (x0 y0 : Int) (x1 y1 : Int) (x2 y2 : Int) (x3 y3 : ByteArray) (x4 y4 : ByteArray) (x5 y5 : ByteArray) (x6 y6 : ByteArray) (x7 y7 : Int) (x8 y8 : ByteArray) :
    (Op.equalIn (d + 3) 30 (.agg #[.int .i64 x0, .int .i64 x1, .int .i64 x2, .string x3, .string x4, .string x5, .string x6, .int .i64 x7, .string x8]) (.agg #[.int .i64 y0, .int .i64 y1, .int .i64 y2, .string y3, .string y4, .string y5, .string y6, .int .i64 y7, .string y8])).run Tryd.prog w = .ok (x0 == y0 && (x1 == y1 && ((x2 == y2 && (x3.toList == y3.toList && (x4.toList == y4.toList && (x5.toList == y5.toList && (x6.toList == y6.toList))))) && (x7 == y7 && (x8.toList == y8.toList))))) w := by
  refine eqA_of Tryd.underlying30 (by kernel_rfl) ?_
  refine eqf_cons (by rfl) (by go_simp; rfl) (by go_simp; rfl) (by go_simp) ?_
  refine eqf_cons (by rfl) (by go_simp; rfl) (by go_simp; rfl) (by go_simp) ?_
  refine eqf_cons (by rfl) (by go_simp) (by go_simp) (eqA29_ (d + 0) w _ _ _ _ _ _ _ _ _ _) ?_
  refine eqf_cons (by rfl) (by go_simp; rfl) (by go_simp; rfl) (by go_simp) ?_
  exact eqf_last (by rfl) (by go_simp; rfl) (by go_simp; rfl) (by go_simp)
/-- Two notes are the same. -/
def eqL (a b : S28) : Bool := a.f0 == b.f0 && (a.f1.toList == b.f1.toList && (a.f2.toList == b.f2.toList && (a.f3.toList == b.f3.toList && (a.f4.toList == b.f4.toList))))
def eqN (x y : S30) : Bool := x.f0 == y.f0 && (x.f1 == y.f1 && (eqL x.f2 y.f2 && (x.f3 == y.f3 && (x.f4.toList == y.f4.toList))))
theorem eqA28 (d : Nat) (w : World) (x0 y0 : Int) (x1 y1 : ByteArray) (x2 y2 : ByteArray) (x3 y3 : ByteArray) (x4 y4 : ByteArray) :
    (Op.equalIn (d + 2) 28 (.agg #[.int .i64 x0, .string x1, .string x2, .string x3, .string x4]) (.agg #[.int .i64 y0, .string y1, .string y2, .string y3, .string y4])).run Tryd.prog w = .ok (eqL ⟨x0, x1, x2, x3, x4⟩ ⟨y0, y1, y2, y3, y4⟩) w := eqA29_ d w _ _ _ _ _ _ _ _ _ _
theorem eqA30 (d : Nat) (w : World) (x0 y0 : Int) (x1 y1 : Int) (x2 y2 : Int) (x3 y3 : ByteArray) (x4 y4 : ByteArray) (x5 y5 : ByteArray) (x6 y6 : ByteArray) (x7 y7 : Int) (x8 y8 : ByteArray) :
    (Op.equalIn (d + 3) 30 (.agg #[.int .i64 x0, .int .i64 x1, .int .i64 x2, .string x3, .string x4, .string x5, .string x6, .int .i64 x7, .string x8]) (.agg #[.int .i64 y0, .int .i64 y1, .int .i64 y2, .string y3, .string y4, .string y5, .string y6, .int .i64 y7, .string y8])).run Tryd.prog w = .ok (eqN ⟨x0, x1, ⟨x2, x3, x4, x5, x6⟩, x7, x8⟩ ⟨y0, y1, ⟨y2, y3, y4, y5, y6⟩, y7, y8⟩) w := eqA31_ d w _ _ _ _ _ _ _ _ _ _ _ _ _ _ _ _ _ _
attribute [local go_sem high] eqA28 eqA30
theorem eqL_iff (a b : S28) : eqL a b = true ↔ a = b := by
  obtain ⟨a0, a1, a2, a3, a4⟩ := a
  obtain ⟨b0, b1, b2, b3, b4⟩ := b
  have e : ∀ s t : ByteArray, s.toList = t.toList ↔ s = t := fun s t => ⟨fun h => Go.WideShapes.bytes_inj (by rw [ByteArray.toList_eq, ByteArray.toList_eq] at h; exact h), fun h => by rw [h]⟩
  simp [eqL, e]
theorem eqN_iff (a b : S30) : eqN a b = true ↔ a = b := by
  obtain ⟨a0, a1, a2, a3, a4⟩ := a
  obtain ⟨b0, b1, b2, b3, b4⟩ := b
  have e : ∀ s t : ByteArray, s.toList = t.toList ↔ s = t := fun s t => ⟨fun h => Go.WideShapes.bytes_inj (by rw [ByteArray.toList_eq, ByteArray.toList_eq] at h; exact h), fun h => by rw [h]⟩
  simp [eqN, e, eqL_iff]
/-- What is known of a transaction, as it lies. -/
def encL (x : S28 × Bool) : Value := .agg #[.int .i64 x.1.f0, .string x.1.f1, .string x.1.f2, .string x.1.f3, .string x.1.f4, .bool x.2]
def lf (f : Int → Option (S28 × Bool)) : Lit → Option Value
  | .int .i64 t => (f t).map encL
  | _ => none
/-- A follower of transactions, at block p, its map at block m. -/
structure LivesAt (w : World) (p m n : Nat) (last : Int) (f : Int → Option (S28 × Bool)) : Prop where
  blk : Blk w p [.map (some m), .int .i64 last] 65
  map : MapV Tryd.prog 2 w m n (lf f)
  pm : p ≠ m
theorem LivesAt.kept {w w' : World} {p m n : Nat} {last : Int} {f : Int → Option (S28 × Bool)} {S : Nat → Prop} (h : LivesAt w p m n last f) (hE : Elses S w w') (hp : ¬ S p) (hm : ¬ S m) : LivesAt w' p m n last f :=
  ⟨h.blk.kept hE hp, h.map.same (hE.block m hm h.map.lt), h.pm⟩
theorem nine {w : World} {I : Nat} {t : TypeId} {v0 v1 v2 v3 v4 v5 v6 v7 v8 : Value} (h : Blk w I [v0, v1, v2, v3, v4, v5, v6, v7, v8] t) :
    w.cell? ⟨I, 0, none⟩ = some v0 ∧ w.cell? ⟨I, 1, none⟩ = some v1 ∧ w.cell? ⟨I, 2, none⟩ = some v2 ∧ w.cell? ⟨I, 3, none⟩ = some v3 ∧ w.cell? ⟨I, 4, none⟩ = some v4 ∧ w.cell? ⟨I, 5, none⟩ = some v5 ∧ w.cell? ⟨I, 6, none⟩ = some v6 ∧ w.cell? ⟨I, 7, none⟩ = some v7 ∧ w.cell? ⟨I, 8, none⟩ = some v8 :=
  ⟨h.cell 0, h.cell 1, h.cell 2, h.cell 3, h.cell 4, h.cell 5, h.cell 6, h.cell 7, h.cell 8⟩
set_option maxHeartbeats 1000000 in
theorem takes_bad (n : S30) (p : Nat) (w : World) (hn : bareP n ≠ n) : Calls Tryd.prog 39 #[.pointer (some ⟨p, 0, none⟩), encN n] w fun e w' => e = .returned (.bool false) ∧ Below w.heap.size w w' := by
  have hq : eqN n (bareP n) = false := by
    cases h : eqN n (bareP n) with
    | true => exact absurd ((eqN_iff _ _).1 h).symm hn
    | false => rfl
  have hB := fun W => bare_any n W
  generalize bareP n = m at hB hq
  obtain ⟨k, t, ⟨a0, a1, a2, a3, a4⟩, c, x⟩ := n
  obtain ⟨k', t', ⟨b0, b1, b2, b3, b4⟩, c', x'⟩ := m
  unfold encN at hB ⊢
  dsimp only at hB ⊢
  have HQ := Lib.hid hq
  have HB := Lib.hid hB
  clear hq hB hn
  go_enter Tryd.func39, Tryd.ntmps39
  go_wp2_with fail
  refine start_ (n := 4) (S := fun w' => Blk w' w.heap.size [.int .i64 k, .int .i64 t, .int .i64 a0, .string a1, .string a2, .string a3, .string a4, .int .i64 c, .string x] 30) (ds := []) #[false, false, false, false] (by kernel_rfl) rfl rfl (Blk.new w [.int .i64 k, .int .i64 t, .int .i64 a0, .string a1, .string a2, .string a3, .string a4, .int .i64 c, .string x] 30) (fun hHeld => ?_)
  refine take_ (i := 0) (N := some 7) (v := ?_) (a' := ?_) #[true, false, false, false] rfl rfl (by kernel_rfl) (fun _ _ _ h => h) (Or.inl ⟨by rfl, ?_⟩) hHeld ?_ ?_
  rotate_left
  ·rintro w' s2
   obtain ⟨c0, c1, c2, c3, c4, c5, c6, c7, c8⟩ := nine s2
   clear s2
   go_simp
   with_reducible rfl
  rotate_left
  ·simp only [Act.put, List.setIfInBounds_toArray, List.set_cons_zero, List.set_cons_succ, i64_w, i32_w]
   rfl
  refine take_ (i := 1) (N := some 8) (v := ?_) (a' := ?_) #[true, true, false, false] rfl rfl (by kernel_rfl) (fun _ _ _ h => h) (Or.inl ⟨by rfl, ?_⟩) hHeld ?_ ?_
  rotate_left
  ·rintro w' s2
   obtain ⟨c0, c1, c2, c3, c4, c5, c6, c7, c8⟩ := nine s2
   clear s2
   go_simp
   with_reducible rfl
  rotate_left
  ·simp only [Act.put, List.setIfInBounds_toArray, List.set_cons_zero, List.set_cons_succ, i64_w, i32_w]
   rfl
  refine one_ (i := 2) (N := some 9) #[true, true, true, false] rfl rfl (by kernel_rfl) (by decide) (fun K hK => ?_)
  refine goes_ Tryd.func55 (by kernel_rfl) rfl #[.agg [.int .i64 k, .int .i64 t, .int .i64 a0, .string a1, .string a2, .string a3, .string a4, .int .i64 c, .string x].toArray] (by rfl) rfl rfl (by (try simp only [List.map_toArray, List.map_cons, List.map_nil]); first | done | rfl) ?_
  refine (HB.out _).mono ?_
  rintro e w1 ⟨rfl, hb1⟩
  have hA1 : Blk w1 w.heap.size [.int .i64 k, .int .i64 t, .int .i64 a0, .string a1, .string a2, .string a3, .string a4, .int .i64 c, .string x] 30 := hHeld.below hb1 (by simp)
  have HB1 := Lib.hid hb1
  clear hb1
  refine ⟨_, rfl, ?_⟩
  refine hK.out _ _ (hA1) (fun hHeld => ?_)
  clear hK K
  refine norm_ (a' := ?_) ?_ ?_
  rotate_left
  ·show Act.put _ (some 9) _ = _
   simp only [Act.put, List.setIfInBounds_toArray, List.set_cons_zero, List.set_cons_succ, i64_w, i32_w]
   rfl
  have hq := HQ.out
  refine pure_ (i := 3) (N := some 10) (v := ?_) (a' := ?_) #[true, true, true, true] rfl rfl (by kernel_rfl) (fun _ _ _ h => h) (Or.inl ⟨by rfl, ?_⟩) ?_ ?_
  rotate_left
  ·intro w'
   go_simp
   with_reducible rfl
  rotate_left
  ·simp only [Act.put, List.setIfInBounds_toArray, List.set_cons_zero, List.set_cons_succ, i64_w, i32_w]
   rfl
  clear hq
  refine done_ (by kernel_rfl) ?_
  go_wp2_with fail
  go_ret
  exact ⟨rfl, (((Below.refl _ _).alloc (Nat.le_refl _) _).drew).trans (HB1.out.mono (by simp))⟩
end Go.Proofs.YtlmhgnkkdjpkcaaDoorG
