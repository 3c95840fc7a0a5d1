/- The contract of audit's takes, for a note that is bare: up to its switch. -/
import Derived.Test.YtlmhgnkkdjpkcaaDoorWm
import Derived.Test.YtlmhgnkkdjpkcaaDoorB1
import Derived.Deep.DeepCutAuto
import Derived.Deep.QuietTactic
import Derived.BigQuiet
import Derived.Deep.CutBlock
set_option linter.unusedVariables false
set_option linter.unusedSimpArgs false
namespace Go.Proofs.YtlmhgnkkdjpkcaaDoorG
open Go.RowKit Go.Proofs.YtlmhgnkkdjpkcaaDoor.PA Go.Proofs.YtlmhgnkkdjpkcaaDoorW.PrintWords Go.Proofs.YtlmhgnkkdjpkcaaDoorW.PrintLast Go.Proofs.YtlmhgnkkdjpkcaaDoorW.PrintMore Go.Proofs.YtlmhgnkkdjpkcaaDoorM Go.Proofs.YtlmhgnkkdjpkcaaDoorV
attribute [local go_sem high] eqA28 eqA30
def putT (f : Int → Option (S28 × Bool)) (t : Int) (x : Option (S28 × Bool)) : Int → Option (S28 × Bool) := fun i => if i = t then x else f i
/-- What follows of a note, by what is known. -/
def takesP (last : Int) (f : Int → Option (S28 × Bool)) (n : S30) : Option (Int × (Int → Option (S28 × Bool))) :=
  if eqN n (bareP n) = false then none
  else if n.f0 = 1 then some (last, f)
  else if n.f0 = 2 then some (last, f)
  else if n.f0 = 9 then some (last, f)
  else if n.f0 = 3 then (if n.f1 = last + 1 then (if 1 ≤ n.f2.f0 then (if n.f2.f0 ≤ 4 then some (n.f1, putT f n.f1 (some (n.f2, false))) else none) else none) else none)
  else match f n.f1 with
    | none => none
    | some (a, s) => if eqL a n.f2 = false then none
      else if n.f0 = 4 then some (last, putT f n.f1 (some (a, true)))
      else if n.f0 = 6 then (if s = true then some (last, putT f n.f1 (some (a, false))) else none)
      else if n.f0 = 5 then (if s = true then some (last, putT f n.f1 none) else none)
      else if n.f0 = 7 then (if s = true then some (last, putT f n.f1 none) else none)
      else if n.f0 = 8 then (if s = true then none else some (last, putT f n.f1 none))
      else none
def Two (p m : Nat) (k : Nat) : Prop := k = p ∨ k = m
/-- What a call of takes comes to. -/
def PostT (p m q : Nat) (r : Option (Int × (Int → Option (S28 × Bool)))) (w : World) (e : Ending) (w' : World) : Prop :=
  Elses (Two p m) w w' ∧ match r with
    | none => e = .returned (.bool false)
    | some (l, g) => e = .returned (.bool true) ∧ LivesAt w' p m (q + 1) l g
theorem z53 (w : World) : (zeroValue 84).run Tryd.prog w = .ok (.agg #[.int .i64 0, .string ⟨#[]⟩, .string ⟨#[]⟩, .string ⟨#[]⟩, .string ⟨#[]⟩, .bool false]) w := by kernel_rfl
theorem key2 {t : Int} (h : (Lit.int .i64 t).wf = true) : keyOf Tryd.prog 2 (.int .i64 t) = some (.int .i64 t) := Maps.keyOf_int_mk Tryd.underlying2 h
/-- What is known of a transaction; whether it is. -/
def knownP (x : Option (S28 × Bool)) : S28 × Bool := x.getD (⟨0, ⟨#[]⟩, ⟨#[]⟩, ⟨#[]⟩, ⟨#[]⟩⟩, false)
theorem look_lives {w : World} {p m q : Nat} {last : Int} {f : Int → Option (S28 × Bool)} (h : LivesAt w p m q last f) {t : Int} (ht : (Lit.int .i64 t).wf = true) :
    (Instr.lookup 63 (.map (some m)) (.int .i64 t) true).run Tryd.prog w = .ok (.tuple #[encL (knownP (f t)), .bool (f t).isSome]) w := by
  have hl := h.map.look2 (Maps.int_keyed Tryd.underlying2) Tryd.underlying63 (z53 w) (key2 ht)
  have e : lf f (.int .i64 t) = (f t).map encL := rfl
  rw [hl, e]
  unfold knownP
  cases f t with
  | none => rfl
  | some x => rfl
theorem six {w : World} {I : Nat} {t : TypeId} {v0 v1 v2 v3 v4 v5 : Value} (h : Blk w I [v0, v1, v2, v3, v4, v5] t) :
    w.cell? ⟨I, 0, none⟩ = some v0 ∧ w.cell? ⟨I, 1, none⟩ = some v1 ∧ w.cell? ⟨I, 2, none⟩ = some v2 ∧ w.cell? ⟨I, 3, none⟩ = some v3 ∧ w.cell? ⟨I, 4, none⟩ = some v4 ∧ w.cell? ⟨I, 5, none⟩ = some v5 :=
  ⟨h.cell 0, h.cell 1, h.cell 2, h.cell 3, h.cell 4, h.cell 5⟩
theorem tp_no {last : Int} {f : Int → Option (S28 × Bool)} {n : S30} (hn : eqN n (bareP n) = true) (h1 : n.f0 ≠ 1) (h2 : n.f0 ≠ 2) (h9 : n.f0 ≠ 9) (h3 : n.f0 ≠ 3) (h : ∀ a s, f n.f1 = some (a, s) → eqL a n.f2 = false) : takesP last f n = none := by
  unfold takesP
  rw [if_neg (by rw [hn]; decide), if_neg h1, if_neg h2, if_neg h9, if_neg h3]
  cases hf : f n.f1 with
  | none => rfl
  | some x => obtain ⟨a, s⟩ := x; exact if_pos (h a s hf)
theorem tp_yes {last : Int} {f : Int → Option (S28 × Bool)} {n : S30} {a : S28} {s : Bool} (hn : eqN n (bareP n) = true) (h1 : n.f0 ≠ 1) (h2 : n.f0 ≠ 2) (h9 : n.f0 ≠ 9) (h3 : n.f0 ≠ 3) (hf : f n.f1 = some (a, s)) (he : eqL a n.f2 = true) :
    takesP last f n = if n.f0 = 4 then some (last, putT f n.f1 (some (a, true)))
      else if n.f0 = 6 then (if s = true then some (last, putT f n.f1 (some (a, false))) else none)
      else if n.f0 = 5 then (if s = true then some (last, putT f n.f1 none) else none)
      else if n.f0 = 7 then (if s = true then some (last, putT f n.f1 none) else none)
      else if n.f0 = 8 then (if s = true then none else some (last, putT f n.f1 none))
      else none := by
  unfold takesP
  rw [if_neg (by rw [hn]; decide), if_neg h1, if_neg h2, if_neg h9, if_neg h3, hf]
  dsimp only
  rw [if_neg (by rw [he]; decide)]
theorem tp_pass {last : Int} {f : Int → Option (S28 × Bool)} {n : S30} (hn : eqN n (bareP n) = true) (h : n.f0 = 1 ∨ n.f0 = 2 ∨ n.f0 = 9) : takesP last f n = some (last, f) := by
  unfold takesP
  rw [if_neg (by rw [hn]; decide)]
  rcases h with h | h | h
  · rw [if_pos h]
  · rw [if_neg (by omega), if_pos h]
  · rw [if_neg (by omega), if_neg (by omega), if_pos h]
theorem tp_three {last : Int} {f : Int → Option (S28 × Bool)} {n : S30} (hn : eqN n (bareP n) = true) (h : n.f0 = 3) : takesP last f n = if n.f1 = last + 1 then (if 1 ≤ n.f2.f0 then (if n.f2.f0 ≤ 4 then some (n.f1, putT f n.f1 (some (n.f2, false))) else none) else none) else none := by
  unfold takesP
  rw [if_neg (by rw [hn]; decide), if_neg (by omega), if_neg (by omega), if_neg (by omega), if_pos h]
theorem known_yes {x : Option (S28 × Bool)} {d a : S28} {s is : Bool} (h : knownP x = (d, s)) (hi : x.isSome = is) (hb : (is && eqL d a) = true) : x = some (d, s) ∧ eqL d a = true := by
  simp only [Bool.and_eq_true] at hb
  cases x with
  | none => rw [← hi] at hb; exact absurd hb.1 (by decide)
  | some y => exact ⟨by rw [← h]; rfl, hb.2⟩
theorem known_no {x : Option (S28 × Bool)} {d a : S28} {s is : Bool} (h : knownP x = (d, s)) (hi : x.isSome = is) (hb : (is && eqL d a) = false) : ∀ b u, x = some (b, u) → eqL b a = false := by
  rintro b u rfl
  have e : (b, u) = (d, s) := h
  cases e
  subst hi
  simpa using hb
theorem post_no {p m q : Nat} {T : Option (Int × (Int → Option (S28 × Bool)))} {w w' : World} (hT : T = none) (hE : Elses (Two p m) w w') : PostT p m q T w (.returned (.bool false)) w' := by
  subst hT
  exact ⟨hE, rfl⟩
theorem post_yes {p m q : Nat} {T : Option (Int × (Int → Option (S28 × Bool)))} {w w' : World} {l : Int} {g : Int → Option (S28 × Bool)} (hT : T = some (l, g)) (hE : Elses (Two p m) w w') (hL : LivesAt w' p m (q + 1) l g) : PostT p m q T w (.returned (.bool true)) w' := by
  subst hT
  exact ⟨hE, rfl, hL⟩
theorem lf_put (f : Int → Option (S28 × Bool)) (t : Int) (x : S28 × Bool) : ∀ l, WideAt.IsKeyLit l → putF (lf f) (.int .i64 t) (encL x) l = lf (putT f t (some x)) l := by
  intro l _
  unfold putF lf putT
  by_cases h : l = .int .i64 t
  · subst h
    simp
  · rw [if_neg h]
    split
    · rename_i i
      rw [if_neg (fun e => h (by rw [e]))]
    · rfl
theorem lf_del (f : Int → Option (S28 × Bool)) (t : Int) : ∀ l, WideAt.IsKeyLit l → delF (lf f) (.int .i64 t) l = lf (putT f t none) l := by
  intro l _
  unfold delF lf putT
  by_cases h : l = .int .i64 t
  · subst h
    simp
  · rw [if_neg h]
    split
    · rename_i i
      rw [if_neg (fun e => h (by rw [e]))]
    · rfl
theorem turned_elses {S : Nat → Prop} {w w1 w' : World} {b : Nat} (hE : Elses S w w1) (h : w1.mapTurned w' b) (hb : S b) : Elses S w w' := hE.grown (World.mapTurned.grown h) (fun k e => by cases e; exact .inl hb)
theorem Elses.drewN {S : Nat → Prop} {a w : World} (h : Elses S a w) (n : Nat) : Elses S a (w.drewN n) := ⟨h.os, h.tape, h.output, h.size, h.block⟩
theorem put_put {f : Int → Option (S28 × Bool)} {t : Int} {x y : Option (S28 × Bool)} : putT (putT f t x) t y = putT f t y := by
  funext i
  unfold putT
  by_cases h : i = t
  · rw [if_pos h, if_pos h]
  · rw [if_neg h, if_neg h, if_neg h]
theorem LivesAt.new {w : World} {p m n : Nat} {last : Int} {f : Int → Option (S28 × Bool)} (h : LivesAt w p m n last f) (o : Obj) : LivesAt (w.alloc o) p m n last f :=
  ⟨h.blk.alloc o, h.map.alloc o, h.pm⟩
theorem LivesAt.drew {w : World} {p m n : Nat} {last : Int} {f : Int → Option (S28 × Bool)} (h : LivesAt w p m n last f) : LivesAt w.drew p m n last f := ⟨h.blk, h.map, h.pm⟩
set_option maxHeartbeats 4000000 in
set_option maxRecDepth 100000 in
theorem takes_ok (n : S30) (p m q : Nat) (last : Int) (f : Int → Option (S28 × Bool)) (w : World) (hn : eqN n (bareP n) = true) (hL : LivesAt w p m q last f) (hw : (Lit.int .i64 n.f1).wf = true)
    (hl0 : 0 ≤ last) (hl1 : last ≤ 1000000000000) (hq : q ≤ 1000000000000) : Calls Tryd.prog 39 #[.pointer (some ⟨p, 0, none⟩), encN n] w (PostT p m q (takesP last f n) w) := by
  obtain ⟨T, hT⟩ : ∃ T, T = takesP last f n := ⟨_, rfl⟩
  rw [← hT]
  have hB := fun W => bare_any n W
  rw [(eqN_iff _ _).1 hn |>.symm] at hB
  have HQ0 := hn
  rw [(eqN_iff _ _).1 hn |>.symm] at HQ0
  obtain ⟨k, t, ⟨a0, a1, a2, a3, a4⟩, c, x⟩ := n
  unfold encN at hB ⊢
  dsimp only at hB hw ⊢
  obtain ⟨⟨⟨d0, d1, d2, d3, d4⟩, ds⟩, hf⟩ : ∃ d, knownP (f t) = d := ⟨_, rfl⟩
  obtain ⟨is, his⟩ : ∃ b, (f t).isSome = b := ⟨_, rfl⟩
  have HF := Lib.hid (show encL (knownP (f t)) = .agg #[.int .i64 d0, .string d1, .string d2, .string d3, .string d4, .bool ds] by rw [hf]; rfl)
  have HIs := Lib.hid his
  have HQ := Lib.hid HQ0
  have HB := Lib.hid hB
  have HL := Lib.hid hL
  have HW := Lib.hid hw
  have HT := Lib.hid hT
  have HK := Lib.hid (And.intro hf his)
  have HN := Lib.hid hn
  clear hB hn HQ0 hL hw hT hf his
  go_enter Tryd.func39, Tryd.ntmps39
  go_wp2_with fail
  refine start_ (n := 4) (S := fun w' => Blk w' w.heap.size [.int .i64 k, .int .i64 t, .int .i64 a0, .string a1, .string a2, .string a3, .string a4, .int .i64 c, .string x] 30) (ds := []) #[false, false, false, false] (by kernel_rfl) rfl rfl (Blk.new w [.int .i64 k, .int .i64 t, .int .i64 a0, .string a1, .string a2, .string a3, .string a4, .int .i64 c, .string x] 30) (fun hHeld => ?_)
  refine take_ (i := 0) (N := some 7) (v := ?_) (a' := ?_) #[true, false, false, false] rfl rfl (by kernel_rfl) (fun _ _ _ h => h) (Or.inl ⟨by rfl, ?_⟩) hHeld ?_ ?_
  rotate_left
  ·rintro w' s2
   obtain ⟨c0, c1, c2, c3, c4, c5, c6, c7, c8⟩ := nine s2
   clear s2
   go_simp
   with_reducible rfl
  rotate_left
  ·simp only [Act.put, List.setIfInBounds_toArray, List.set_cons_zero, List.set_cons_succ, i64_w, i32_w]
   rfl
  refine take_ (i := 1) (N := some 8) (v := ?_) (a' := ?_) #[true, true, false, false] rfl rfl (by kernel_rfl) (fun _ _ _ h => h) (Or.inl ⟨by rfl, ?_⟩) hHeld ?_ ?_
  rotate_left
  ·rintro w' s2
   obtain ⟨c0, c1, c2, c3, c4, c5, c6, c7, c8⟩ := nine s2
   clear s2
   go_simp
   with_reducible rfl
  rotate_left
  ·simp only [Act.put, List.setIfInBounds_toArray, List.set_cons_zero, List.set_cons_succ, i64_w, i32_w]
   rfl
  refine one_ (i := 2) (N := some 9) (mb_ 4 7) rfl rfl (by kernel_rfl) (by decide) (fun K hK => ?_)
  refine goes_ Tryd.func55 (by kernel_rfl) rfl #[.agg [.int .i64 k, .int .i64 t, .int .i64 a0, .string a1, .string a2, .string a3, .string a4, .int .i64 c, .string x].toArray] (by rfl) rfl rfl (by (try simp only [List.map_toArray, List.map_cons, List.map_nil]); first | done | rfl) ?_
  refine (HB.out _).mono ?_
  rintro e w1 ⟨rfl, hb1⟩
  have hA1 : Blk w1 w.heap.size [.int .i64 k, .int .i64 t, .int .i64 a0, .string a1, .string a2, .string a3, .string a4, .int .i64 c, .string x] 30 := hHeld.below hb1 (by simp)
  have HX := Lib.hid (show Elses (Two p m) w w1 ∧ Blk w1 w.heap.size [.int .i64 k, .int .i64 t, .int .i64 a0, .string a1, .string a2, .string a3, .string a4, .int .i64 c, .string x] 30 ∧ LivesAt w1 p m q last f ∧ w.heap.size < w1.heap.size from ⟨(((Elses.refl _ _).alloc _).drew).trans (Elses.of_new hb1), hA1, LivesAt.kept (S := fun _ => False) ((HL.out.new _).drew) (Elses.of_new hb1) (fun h => h) (fun h => h), by have := hb1.size; simp at this; omega⟩)
  clear hb1
  refine ⟨_, rfl, ?_⟩
  refine hK.out _ _ (hA1) (fun hHeld2 => ?_)
  clear hK K hHeld
  have hHeld := hHeld2
  clear hHeld2
  refine norm_ (a' := ?_) ?_ ?_
  rotate_left
  ·show Act.put _ (some 9) _ = _
   simp only [Act.put, List.setIfInBounds_toArray, List.set_cons_zero, List.set_cons_succ, i64_w, i32_w]
   rfl
  have hq := HQ.out
  refine pq_ 3 10 (mb_ 4 15) rfl ?_
  clear hq
  refine done_ (by kernel_rfl) ?_
  have HI := Lib.hid hA1
  clear hA1 hHeld
  go_wp2_with fail
  refine start_ (n := 13) (S := fun w' => (w'.cell? ⟨p, 0, none⟩ = some (.map (some m)) ∧ w'.cell? ⟨w.heap.size, 1, none⟩ = some (.int .i64 t)) ∧ (Instr.lookup 63 (.map (some m)) (.int .i64 t) true).run Tryd.prog w' = .ok (.tuple #[.agg #[.int .i64 d0, .string d1, .string d2, .string d3, .string d4, .bool ds], .bool is]) w') (ds := []) #[false, false, false, false, false, false, false, false, false, false, false, false, false] (by kernel_rfl) rfl rfl (⟨⟨HX.out.2.2.1.drew.blk.cell 0, HX.out.2.1.drew.cell 1⟩, (look_lives HX.out.2.2.1.drew HW.out).trans (by rw [HF.out, HIs.out])⟩) (fun hHeld => ?_)
  refine pq_ 0 12 (mb_ 13 1) rfl ?_
  refine pq_ 1 13 (mb_ 13 3) rfl ?_
  refine pq_ 2 14 (mb_ 13 7) rfl ?_
  refine take_ (i := 3) (N := some 15) (v := ?_) (a' := ?_) #[true, true, true, true, false, false, false, false, false, false, false, false, false] rfl rfl (by kernel_rfl) (fun _ _ _ h => h) (Or.inl ⟨by rfl, ?_⟩) hHeld ?_ ?_
  rotate_left
  ·rintro w' ⟨⟨s0, s1⟩, s2⟩
   go_simp
   with_reducible rfl
  rotate_left
  ·simp only [Act.put, List.setIfInBounds_toArray, List.set_cons_zero, List.set_cons_succ, i64_w, i32_w]
   rfl
  refine pq_ 4 16 (mb_ 13 31) rfl ?_
  refine take_ (i := 5) (N := some 17) (v := ?_) (a' := ?_) #[true, true, true, true, true, true, false, false, false, false, false, false, false] rfl rfl (by kernel_rfl) (fun _ _ _ h => h) (Or.inl ⟨by rfl, ?_⟩) hHeld ?_ ?_
  rotate_left
  ·rintro w' ⟨⟨s0, s1⟩, s2⟩
   go_simp
   with_reducible rfl
  rotate_left
  ·simp only [Act.put, List.setIfInBounds_toArray, List.set_cons_zero, List.set_cons_succ, i64_w, i32_w]
   rfl
  refine take_ (i := 6) (N := some 18) (v := ?_) (a' := ?_) #[true, true, true, true, true, true, true, false, false, false, false, false, false] rfl rfl (by kernel_rfl) (fun _ _ _ h => h) (Or.inl ⟨by rfl, ?_⟩) hHeld ?_ ?_
  rotate_left
  ·rintro w' ⟨⟨s0, s1⟩, s2⟩
   go_simp
   with_reducible rfl
  rotate_left
  ·simp only [Act.put, List.setIfInBounds_toArray, List.set_cons_zero, List.set_cons_succ, i64_w, i32_w]
   rfl
  refine pq_ 7 11 (mb_ 13 255) rfl ?_
  refine pq_ 8 19 (mb_ 13 511) rfl ?_
  refine pq_ 9 20 (mb_ 13 1023) rfl ?_
  refine one_ (i := 10) (N := some 5) (mb_ 13 2047) rfl rfl (by kernel_rfl) (by decide) (fun K hK => ?_)
  refine value_ (w1 := ?_) (v := ?_) (by rfl) rfl ?_ ?_
  rotate_left 2
  ·go_simp
   constructor
   ·rfl
   ·rfl
  refine hK.out _ _ (⟨⟨((HX.out.2.2.1.blk.alloc _).drew).cell 0, ((HX.out.2.1.alloc _).drew).cell 1⟩, (look_lives ((LivesAt.new HX.out.2.2.1 _).drew) HW.out).trans (by rw [HF.out, HIs.out])⟩) (fun hHeld2 => ?_)
  clear hK K hHeld
  have hHeld := hHeld2
  clear hHeld2
  refine norm_ (a' := ?_) ?_ ?_
  rotate_left
  ·show Act.put _ (some 5) _ = _
   simp only [Act.put, List.setIfInBounds_toArray, List.set_cons_zero, List.set_cons_succ, i64_w, i32_w]
   rfl
  refine one_ (i := 11) (N := none) (mb_ 13 4095) rfl rfl (by kernel_rfl) (by decide) (fun K hK => ?_)
  refine skip_ (w1 := ?_) (by rfl) rfl ?_ ?_
  rotate_left
  ·go_simp
   rfl
  refine hK.out _ _ (⟨⟨((HX.out.2.2.1.blk.alloc _).drew).cell 0, ((HX.out.2.1.alloc _).drew).cell 1⟩, (look_lives ((LivesAt.new HX.out.2.2.1 _).drew) HW.out).trans (by rw [HF.out, HIs.out])⟩) (fun hHeld2 => ?_)
  clear hK K hHeld
  have hHeld := hHeld2
  clear hHeld2
  refine pq_ 12 6 (mb_ 13 8191) rfl ?_
  refine done_ (by kernel_rfl) ?_
  have HX2 := Lib.hid (show Elses (Two p m) w (w1.alloc (.cells #[.int .i64 d0, .string d1, .string d2, .string d3, .string d4, .bool ds] 84)).drew ∧ Blk (w1.alloc (.cells #[.int .i64 d0, .string d1, .string d2, .string d3, .string d4, .bool ds] 84)).drew w.heap.size [.int .i64 k, .int .i64 t, .int .i64 a0, .string a1, .string a2, .string a3, .string a4, .int .i64 c, .string x] 30 ∧ LivesAt (w1.alloc (.cells #[.int .i64 d0, .string d1, .string d2, .string d3, .string d4, .bool ds] 84)).drew p m q last f ∧ Blk (w1.alloc (.cells #[.int .i64 d0, .string d1, .string d2, .string d3, .string d4, .bool ds] 84)).drew w1.heap.size [.int .i64 d0, .string d1, .string d2, .string d3, .string d4, .bool ds] 84 from
    ⟨(HX.out.1.alloc _).drew, (HX.out.2.1.alloc _).drew, (LivesAt.new HX.out.2.2.1 _).drew, (Blk.new w1 [.int .i64 d0, .string d1, .string d2, .string d3, .string d4, .bool ds] 84).drew⟩)
  have HJ := Lib.hid (show w.heap.size < w1.heap.size from HX.out.2.2.2)
  have HPM := Lib.hid (show p < w.heap.size ∧ m < w.heap.size ∧ p ≠ m from ⟨HL.out.blk.lt, HL.out.map.lt, HL.out.pm⟩)
  clear HX HI hHeld
  generalize (w1.alloc (.cells #[.int .i64 d0, .string d1, .string d2, .string d3, .string d4, .bool ds] 84)).drew = w2 at HX2 ⊢
  obtain ⟨b0, hb0⟩ : ∃ b, (is && eqL ⟨d0, d1, d2, d3, d4⟩ ⟨a0, a1, a2, a3, a4⟩) = b := ⟨_, rfl⟩
  have HB0 := Lib.hid hb0
  clear hb0
  go_upto_region 4 with fail
  go_cut [6] (fun t6 wx => t6 = .bool b0 ∧ wx = w2)
  case first =>
    cases is with
    | false =>
      have hb0 := HB0.out
      simp only [Bool.false_and] at hb0
      subst hb0
      obtain ⟨c0, c1, c2, c3, c4, c5, c6, c7, c8⟩ := nine HX2.out.2.1
      obtain ⟨e0, e1, e2, e3, e4, e5⟩ := six HX2.out.2.2.2
      go_wp2_with fail
      go_meet
      exact ⟨rfl, rfl⟩
    | true =>
      have hb0 := HB0.out
      simp only [Bool.true_and] at hb0
      obtain ⟨c0, c1, c2, c3, c4, c5, c6, c7, c8⟩ := nine HX2.out.2.1
      obtain ⟨e0, e1, e2, e3, e4, e5⟩ := six HX2.out.2.2.2
      go_wp2_with fail
      go_meet
      exact ⟨rfl, rfl⟩
  case rest =>
    obtain ⟨rfl, rfl⟩ := hcut
    clear HB HQ HF HIs
    have HX3 := HX2
    clear HX2
    by_cases k1 : k = 1
    · subst k1
      obtain ⟨c0, c1, c2, c3, c4, c5, c6, c7, c8⟩ := nine HX3.out.2.1
      have y0 := HX3.out.2.2.1.blk.cell 0
      have y1 := HX3.out.2.2.1.blk.cell 1
      have y2 := HX3.out.2.2.1.blk.frozen 1
      simp at y0 y1 y2
      obtain ⟨e0, e1, e2, e3, e4, e5⟩ := six HX3.out.2.2.2
      have e6 := HX3.out.2.2.2.frozen 5
      go_wp2_with fail
      go_ret
      exact post_yes (HT.out.trans (tp_pass HN.out (by simp))) HX3.out.1 ⟨HX3.out.2.2.1.blk, HX3.out.2.2.1.map.mono (by omega), HX3.out.2.2.1.pm⟩
    have n1 : (k == 1) = false := by simpa using k1
    by_cases k2 : k = 2
    · subst k2
      obtain ⟨c0, c1, c2, c3, c4, c5, c6, c7, c8⟩ := nine HX3.out.2.1
      have y0 := HX3.out.2.2.1.blk.cell 0
      have y1 := HX3.out.2.2.1.blk.cell 1
      have y2 := HX3.out.2.2.1.blk.frozen 1
      simp at y0 y1 y2
      obtain ⟨e0, e1, e2, e3, e4, e5⟩ := six HX3.out.2.2.2
      have e6 := HX3.out.2.2.2.frozen 5
      go_wp2_with fail
      go_ret
      exact post_yes (HT.out.trans (tp_pass HN.out (by simp))) HX3.out.1 ⟨HX3.out.2.2.1.blk, HX3.out.2.2.1.map.mono (by omega), HX3.out.2.2.1.pm⟩
    have n2 : (k == 2) = false := by simpa using k2
    by_cases k9 : k = 9
    · subst k9
      obtain ⟨c0, c1, c2, c3, c4, c5, c6, c7, c8⟩ := nine HX3.out.2.1
      have y0 := HX3.out.2.2.1.blk.cell 0
      have y1 := HX3.out.2.2.1.blk.cell 1
      have y2 := HX3.out.2.2.1.blk.frozen 1
      simp at y0 y1 y2
      obtain ⟨e0, e1, e2, e3, e4, e5⟩ := six HX3.out.2.2.2
      have e6 := HX3.out.2.2.2.frozen 5
      go_wp2_with fail
      go_ret
      exact post_yes (HT.out.trans (tp_pass HN.out (by simp))) HX3.out.1 ⟨HX3.out.2.2.1.blk, HX3.out.2.2.1.map.mono (by omega), HX3.out.2.2.1.pm⟩
    have n9 : (k == 9) = false := by simpa using k9
    by_cases k3 : k = 3
    · subst k3
      clear n1 n2 n9
      obtain ⟨c0, c1, c2, c3, c4, c5, c6, c7, c8⟩ := nine HX3.out.2.1
      have y0 := HX3.out.2.2.1.blk.cell 0
      have y1 := HX3.out.2.2.1.blk.cell 1
      have y2 := HX3.out.2.2.1.blk.frozen 1
      simp at y0 y1 y2
      by_cases g1 : t = last + 1
      · have q1 : (t != last + 1) = false := by simpa using g1
        by_cases g2 : 1 ≤ a0
        · have q2 : decide (a0 < 1) = false := by simpa using g2
          by_cases g3 : a0 ≤ 4
          · have q3 : decide (4 < a0) = false := by simpa using g3
            subst g1
            go_wp2_with fail
            go_quiet (fail)
            go_wp2_with fail
            clear q1 q2 q3
            clear c0 c1 c2 c3 c4 c5 c6 c7 c8 y0 y1 y2
            have HX5 := Lib.hid (show Elses (Two p m) w ((wc.drewN nq).setCell ⟨p, 1, none⟩ (.int .i64 (last + 1))) ∧ Blk ((wc.drewN nq).setCell ⟨p, 1, none⟩ (.int .i64 (last + 1))) w.heap.size [.int .i64 3, .int .i64 (last + 1), .int .i64 a0, .string a1, .string a2, .string a3, .string a4, .int .i64 c, .string x] 30 ∧ LivesAt ((wc.drewN nq).setCell ⟨p, 1, none⟩ (.int .i64 (last + 1))) p m q (last + 1) f ∧ True from
              ⟨(Elses.drewN HX3.out.1 nq).set (.inl (.inl rfl)) _, Blk.setElse (show Blk (wc.drewN nq) w.heap.size [.int .i64 3, .int .i64 (last + 1), .int .i64 a0, .string a1, .string a2, .string a3, .string a4, .int .i64 c, .string x] 30 from HX3.out.2.1) (by have := HPM.out; omega) 1 _, ⟨Blk.set (show Blk (wc.drewN nq) p [.map (some m), .int .i64 last] 65 from HX3.out.2.2.1.blk) 1 _, (MapV.same (w' := wc.drewN nq) HX3.out.2.2.1.map rfl).setCell (fun e => HPM.out.2.2 e.symm) _, HPM.out.2.2⟩, trivial⟩)
            generalize ((wc.drewN nq).setCell ⟨p, 1, none⟩ (.int .i64 (last + 1))) = w4 at HX5 ⊢
            obtain ⟨c0, c1, c2, c3, c4, c5, c6, c7, c8⟩ := nine HX5.out.2.1
            have y0 := HX5.out.2.2.1.blk.cell 0
            have y1 := HX5.out.2.2.1.blk.cell 1
            have y2 := HX5.out.2.2.1.blk.frozen 1
            simp at y0 y1 y2
            refine start_ (n := 10) (S := fun w' => w' = w4.drew) (ds := [9]) #[false, false, false, false, false, false, false, false, false, false] (by kernel_rfl) rfl rfl (rfl) (fun hHeld => ?_)
            refine pq_ 0 62 (mb_ 10 1) rfl ?_
            refine pq_ 1 63 (mb_ 10 3) rfl ?_
            refine pq_ 2 64 (mb_ 10 7) rfl ?_
            refine take_ (i := 3) (N := some 65) (v := ?_) (a' := ?_) #[true, true, true, true, false, false, false, false, false, false] rfl rfl (by kernel_rfl) (fun _ _ _ h => h) (Or.inl ⟨by rfl, ?_⟩) hHeld ?_ ?_
            rotate_left
            ·rintro w' rfl
             go_simp
             with_reducible rfl
            rotate_left
            ·simp only [Act.put, List.setIfInBounds_toArray, List.set_cons_zero, List.set_cons_succ, i64_w, i32_w]
             rfl
            refine pq_ 4 66 (mb_ 10 31) rfl ?_
            refine take_ (i := 5) (N := some 67) (v := ?_) (a' := ?_) #[true, true, true, true, true, true, false, false, false, false] rfl rfl (by kernel_rfl) (fun _ _ _ h => h) (Or.inl ⟨by rfl, ?_⟩) hHeld ?_ ?_
            rotate_left
            ·rintro w' rfl
             go_simp
             with_reducible rfl
            rotate_left
            ·simp only [Act.put, List.setIfInBounds_toArray, List.set_cons_zero, List.set_cons_succ, i64_w, i32_w]
             rfl
            refine pq_ 6 68 (mb_ 10 127) rfl ?_
            refine take_ (i := 7) (N := some 69) (v := ?_) (a' := ?_) #[true, true, true, true, true, true, true, true, false, false] rfl rfl (by kernel_rfl) (fun _ _ _ h => h) (Or.inl ⟨by rfl, ?_⟩) hHeld ?_ ?_
            rotate_left
            ·rintro w' rfl
             go_simp
             with_reducible rfl
            rotate_left
            ·simp only [Act.put, List.setIfInBounds_toArray, List.set_cons_zero, List.set_cons_succ, i64_w, i32_w]
             rfl
            refine pq_ 8 70 (mb_ 10 511) rfl ?_
            refine last_ (i := 9) (N := none) (mb_ 10 1023) rfl rfl (by kernel_rfl) (by decide) (fun K hK => ?_)
            obtain ⟨wm, hrun, hmap, hturn⟩ := (HX5.out.2.2.1.drew.map).store (Maps.int_keyed Tryd.underlying2) Tryd.underlying63 (by unfold maxLen; omega) (key2 HW.out) (val := (.agg #[.int .i64 a0, .string a1, .string a2, .string a3, .string a4, .bool false]))
            refine skip_ (w1 := wm) (by rfl) rfl (by first | (go_simp; done) | (go_simp; rw [hrun]; rfl)) ?_
            clear hrun
            refine hK.out _ _ ?_
            clear hK K
            refine done_ (by kernel_rfl) ?_
            clear c0 c1 c2 c3 c4 c5 c6 c7 c8 y0 y1 y2
            have HX6 := Lib.hid (show Elses (Two p m) w wm ∧ Blk wm w.heap.size [.int .i64 3, .int .i64 (last + 1), .int .i64 a0, .string a1, .string a2, .string a3, .string a4, .int .i64 c, .string x] 30 ∧ LivesAt wm p m (q + 1) (last + 1) (putT f (last + 1) (some (⟨a0, a1, a2, a3, a4⟩, false))) ∧ True from
              ⟨turned_elses HX5.out.1.drew hturn (.inr rfl), (turned_block hturn (by have := HPM.out; omega)).trans HX5.out.2.1, ⟨(turned_block hturn HPM.out.2.2).trans HX5.out.2.2.1.blk, hmap.congr (lf_put f (last + 1) (⟨a0, a1, a2, a3, a4⟩, false)), HPM.out.2.2⟩, trivial⟩)
            clear hmap hturn
            go_wp2_with fail
            go_ret
            exact post_yes (by rw [HT.out, tp_three HN.out rfl]; dsimp only; rw [if_pos rfl, if_pos (by omega), if_pos (by omega)]) HX6.out.1 HX6.out.2.2.1
          · have q3 : decide (4 < a0) = true := by simpa using g3
            go_wp2_with fail
            go_quiet (fail)
            go_wp2_with fail
            go_ret
            exact post_no (by rw [HT.out, tp_three HN.out rfl]; dsimp only; rw [if_pos g1, if_pos (by omega), if_neg (by omega)]) (Elses.drewN HX3.out.1 _)
        · have q2 : decide (a0 < 1) = true := by simpa using g2
          go_wp2_with fail
          go_quiet (fail)
          go_wp2_with fail
          go_ret
          exact post_no (by rw [HT.out, tp_three HN.out rfl]; dsimp only; rw [if_pos g1, if_neg (by omega)]) (Elses.drewN HX3.out.1 _)
      · have q1 : (t != last + 1) = true := by simpa using g1
        go_wp2_with fail
        go_quiet (fail)
        go_wp2_with fail
        go_ret
        exact post_no (by rw [HT.out, tp_three HN.out rfl]; dsimp only; rw [if_neg g1]) (Elses.drewN HX3.out.1 _)
    have n3 : (k == 3) = false := by simpa using k3
    cases b0 with
    | false =>
      obtain ⟨c0, c1, c2, c3, c4, c5, c6, c7, c8⟩ := nine HX3.out.2.1
      have y0 := HX3.out.2.2.1.blk.cell 0
      have y1 := HX3.out.2.2.1.blk.cell 1
      have y2 := HX3.out.2.2.1.blk.frozen 1
      simp at y0 y1 y2
      obtain ⟨e0, e1, e2, e3, e4, e5⟩ := six HX3.out.2.2.2
      have e6 := HX3.out.2.2.2.frozen 5
      go_wp2_with fail
      all_goals
        go_ret
        exact post_no (HT.out.trans (tp_no HN.out k1 k2 k9 k3 (known_no HK.out.1 HK.out.2 HB0.out))) (by first | exact HX3.out.1 | exact HX3.out.1.set (.inr (Nat.le_of_lt HJ.out)) _)
    | true =>
      have HS := Lib.hid (known_yes HK.out.1 HK.out.2 HB0.out)
      by_cases k4 : k = 4
      · subst k4
        clear n1 n2 n9 n3
        have hen : endedB 4 = false := rfl
        obtain ⟨c0, c1, c2, c3, c4, c5, c6, c7, c8⟩ := nine HX3.out.2.1
        have y0 := HX3.out.2.2.1.blk.cell 0
        have y1 := HX3.out.2.2.1.blk.cell 1
        have y2 := HX3.out.2.2.1.blk.frozen 1
        simp at y0 y1 y2
        obtain ⟨e0, e1, e2, e3, e4, e5⟩ := six HX3.out.2.2.2
        have e6 := HX3.out.2.2.2.frozen 5
        go_wp2_with fail
        clear c0 c1 c2 c3 c4 c5 c6 c7 c8 y0 y1 y2 e0 e1 e2 e3 e4 e5 e6
        have HX5 := Lib.hid (show Elses (Two p m) w (wc.setCell ⟨w1.heap.size, 5, none⟩ (.bool true)) ∧ Blk (wc.setCell ⟨w1.heap.size, 5, none⟩ (.bool true)) w.heap.size [.int .i64 4, .int .i64 t, .int .i64 a0, .string a1, .string a2, .string a3, .string a4, .int .i64 c, .string x] 30 ∧ LivesAt (wc.setCell ⟨w1.heap.size, 5, none⟩ (.bool true)) p m q last f ∧ Blk (wc.setCell ⟨w1.heap.size, 5, none⟩ (.bool true)) w1.heap.size [.int .i64 d0, .string d1, .string d2, .string d3, .string d4, .bool true] 84 from
          ⟨HX3.out.1.set (.inr (Nat.le_of_lt HJ.out)) _, HX3.out.2.1.setElse (by have := HJ.out; omega) 5 _, ⟨HX3.out.2.2.1.blk.setElse (by have := HJ.out; have := HPM.out; omega) 5 _, HX3.out.2.2.1.map.setCell (by have := HJ.out; have := HPM.out; show m ≠ w1.heap.size; omega) _, HPM.out.2.2⟩, HX3.out.2.2.2.set 5 _⟩)
        generalize wc.setCell ⟨w1.heap.size, 5, none⟩ (.bool true) = w4 at HX5 ⊢
        obtain ⟨c0, c1, c2, c3, c4, c5, c6, c7, c8⟩ := nine HX5.out.2.1
        have y0 := HX5.out.2.2.1.blk.cell 0
        have y1 := HX5.out.2.2.1.blk.cell 1
        have y2 := HX5.out.2.2.1.blk.frozen 1
        simp at y0 y1 y2
        obtain ⟨e0, e1, e2, e3, e4, e5⟩ := six HX5.out.2.2.2
        have e6 := HX5.out.2.2.2.frozen 5
        refine start_ (n := 8) (S := fun w' => w' = w4.drew) (ds := [7]) #[false, false, false, false, false, false, false, false] (by kernel_rfl) rfl rfl (rfl) (fun hHeld => ?_)
        refine pq_ 0 100 (mb_ 8 1) rfl ?_
        refine pq_ 1 101 (mb_ 8 3) rfl ?_
        refine pq_ 2 102 (mb_ 8 7) rfl ?_
        refine take_ (i := 3) (N := some 103) (v := ?_) (a' := ?_) #[true, true, true, true, false, false, false, false] rfl rfl (by kernel_rfl) (fun _ _ _ h => h) (Or.inl ⟨by rfl, ?_⟩) hHeld ?_ ?_
        rotate_left
        ·rintro w' rfl
         go_simp
         with_reducible rfl
        rotate_left
        ·simp only [Act.put, List.setIfInBounds_toArray, List.set_cons_zero, List.set_cons_succ, i64_w, i32_w]
         rfl
        refine pq_ 4 104 (mb_ 8 31) rfl ?_
        refine take_ (i := 5) (N := some 105) (v := ?_) (a' := ?_) #[true, true, true, true, true, true, false, false] rfl rfl (by kernel_rfl) (fun _ _ _ h => h) (Or.inl ⟨by rfl, ?_⟩) hHeld ?_ ?_
        rotate_left
        ·rintro w' rfl
         go_simp
         with_reducible rfl
        rotate_left
        ·simp only [Act.put, List.setIfInBounds_toArray, List.set_cons_zero, List.set_cons_succ, i64_w, i32_w]
         rfl
        refine take_ (i := 6) (N := some 106) (v := ?_) (a' := ?_) #[true, true, true, true, true, true, true, false] rfl rfl (by kernel_rfl) (fun _ _ _ h => h) (Or.inl ⟨by rfl, ?_⟩) hHeld ?_ ?_
        rotate_left
        ·rintro w' rfl
         go_simp
         with_reducible rfl
        rotate_left
        ·simp only [Act.put, List.setIfInBounds_toArray, List.set_cons_zero, List.set_cons_succ, i64_w, i32_w]
         rfl
        refine last_ (i := 7) (N := none) (mb_ 8 255) rfl rfl (by kernel_rfl) (by decide) (fun K hK => ?_)
        obtain ⟨wm, hrun, hmap, hturn⟩ := (HX5.out.2.2.1.drew.map).store (Maps.int_keyed Tryd.underlying2) Tryd.underlying63 (by unfold maxLen; omega) (key2 HW.out) (val := (.agg #[.int .i64 d0, .string d1, .string d2, .string d3, .string d4, .bool true]))
        refine skip_ (w1 := wm) (by rfl) rfl (by first | (go_simp; done) | (go_simp; rw [hrun]; rfl)) ?_
        clear hrun
        refine hK.out _ _ ?_
        clear hK K
        refine done_ (by kernel_rfl) ?_
        clear c0 c1 c2 c3 c4 c5 c6 c7 c8 y0 y1 y2 e0 e1 e2 e3 e4 e5 e6
        have HX6 := Lib.hid (show Elses (Two p m) w wm ∧ Blk wm w.heap.size [.int .i64 4, .int .i64 t, .int .i64 a0, .string a1, .string a2, .string a3, .string a4, .int .i64 c, .string x] 30 ∧ LivesAt wm p m (q + 1) last (putT f t (some (⟨d0, d1, d2, d3, d4⟩, true))) ∧ True from
          ⟨turned_elses HX5.out.1.drew hturn (.inr rfl), (turned_block hturn (by have := HPM.out; omega)).trans HX5.out.2.1, ⟨(turned_block hturn HPM.out.2.2).trans HX5.out.2.2.1.blk, hmap.congr (lf_put f t (⟨d0, d1, d2, d3, d4⟩, true)), HPM.out.2.2⟩, trivial⟩)
        clear hmap hturn
        obtain ⟨c0, c1, c2, c3, c4, c5, c6, c7, c8⟩ := nine HX6.out.2.1
        have y0 := HX6.out.2.2.1.blk.cell 0
        have y1 := HX6.out.2.2.1.blk.cell 1
        have y2 := HX6.out.2.2.1.blk.frozen 1
        simp at y0 y1 y2
        go_wp2_with (go_at_call 44; refine (ended_any _ _).mono ?_; rintro e w' ⟨rfl, rfl⟩)
        go_ret
        exact post_yes (by rw [HT.out, tp_yes HN.out (show (4 : Int) ≠ 1 by decide) (show (4 : Int) ≠ 2 by decide) (show (4 : Int) ≠ 9 by decide) (show (4 : Int) ≠ 3 by decide) HS.out.1 HS.out.2]; dsimp only; rw [if_pos rfl]) HX6.out.1 HX6.out.2.2.1
      have n4 : (k == 4) = false := by simpa using k4
      by_cases k6 : k = 6
      · subst k6
        clear n1 n2 n9 n3
        cases ds with
        | false =>
          have hen : endedB 6 = false := rfl
          obtain ⟨c0, c1, c2, c3, c4, c5, c6, c7, c8⟩ := nine HX3.out.2.1
          have y0 := HX3.out.2.2.1.blk.cell 0
          have y1 := HX3.out.2.2.1.blk.cell 1
          have y2 := HX3.out.2.2.1.blk.frozen 1
          simp at y0 y1 y2
          obtain ⟨e0, e1, e2, e3, e4, e5⟩ := six HX3.out.2.2.2
          have e6 := HX3.out.2.2.2.frozen 5
          go_wp2_with fail
          go_ret
          exact post_no (by rw [HT.out, tp_yes HN.out (show (6 : Int) ≠ 1 by decide) (show (6 : Int) ≠ 2 by decide) (show (6 : Int) ≠ 9 by decide) (show (6 : Int) ≠ 3 by decide) HS.out.1 HS.out.2]; dsimp only; rw [if_neg (by decide), if_pos rfl]; rfl) (by first | exact HX3.out.1 | exact HX3.out.1.set (.inr (Nat.le_of_lt HJ.out)) _)
        | true =>
          have hen : endedB 6 = false := rfl
          obtain ⟨c0, c1, c2, c3, c4, c5, c6, c7, c8⟩ := nine HX3.out.2.1
          have y0 := HX3.out.2.2.1.blk.cell 0
          have y1 := HX3.out.2.2.1.blk.cell 1
          have y2 := HX3.out.2.2.1.blk.frozen 1
          simp at y0 y1 y2
          obtain ⟨e0, e1, e2, e3, e4, e5⟩ := six HX3.out.2.2.2
          have e6 := HX3.out.2.2.2.frozen 5
          go_wp2_with fail
          clear c0 c1 c2 c3 c4 c5 c6 c7 c8 y0 y1 y2 e0 e1 e2 e3 e4 e5 e6
          have HX5 := Lib.hid (show Elses (Two p m) w (wc.setCell ⟨w1.heap.size, 5, none⟩ (.bool false)) ∧ Blk (wc.setCell ⟨w1.heap.size, 5, none⟩ (.bool false)) w.heap.size [.int .i64 6, .int .i64 t, .int .i64 a0, .string a1, .string a2, .string a3, .string a4, .int .i64 c, .string x] 30 ∧ LivesAt (wc.setCell ⟨w1.heap.size, 5, none⟩ (.bool false)) p m q last f ∧ Blk (wc.setCell ⟨w1.heap.size, 5, none⟩ (.bool false)) w1.heap.size [.int .i64 d0, .string d1, .string d2, .string d3, .string d4, .bool false] 84 from
            ⟨HX3.out.1.set (.inr (Nat.le_of_lt HJ.out)) _, HX3.out.2.1.setElse (by have := HJ.out; omega) 5 _, ⟨HX3.out.2.2.1.blk.setElse (by have := HJ.out; have := HPM.out; omega) 5 _, HX3.out.2.2.1.map.setCell (by have := HJ.out; have := HPM.out; show m ≠ w1.heap.size; omega) _, HPM.out.2.2⟩, HX3.out.2.2.2.set 5 _⟩)
          generalize wc.setCell ⟨w1.heap.size, 5, none⟩ (.bool false) = w4 at HX5 ⊢
          obtain ⟨c0, c1, c2, c3, c4, c5, c6, c7, c8⟩ := nine HX5.out.2.1
          have y0 := HX5.out.2.2.1.blk.cell 0
          have y1 := HX5.out.2.2.1.blk.cell 1
          have y2 := HX5.out.2.2.1.blk.frozen 1
          simp at y0 y1 y2
          obtain ⟨e0, e1, e2, e3, e4, e5⟩ := six HX5.out.2.2.2
          have e6 := HX5.out.2.2.2.frozen 5
          refine start_ (n := 8) (S := fun w' => w' = w4.drew) (ds := [7]) #[false, false, false, false, false, false, false, false] (by kernel_rfl) rfl rfl (rfl) (fun hHeld => ?_)
          refine pq_ 0 100 (mb_ 8 1) rfl ?_
          refine pq_ 1 101 (mb_ 8 3) rfl ?_
          refine pq_ 2 102 (mb_ 8 7) rfl ?_
          refine take_ (i := 3) (N := some 103) (v := ?_) (a' := ?_) #[true, true, true, true, false, false, false, false] rfl rfl (by kernel_rfl) (fun _ _ _ h => h) (Or.inl ⟨by rfl, ?_⟩) hHeld ?_ ?_
          rotate_left
          ·rintro w' rfl
           go_simp
           with_reducible rfl
          rotate_left
          ·simp only [Act.put, List.setIfInBounds_toArray, List.set_cons_zero, List.set_cons_succ, i64_w, i32_w]
           rfl
          refine pq_ 4 104 (mb_ 8 31) rfl ?_
          refine take_ (i := 5) (N := some 105) (v := ?_) (a' := ?_) #[true, true, true, true, true, true, false, false] rfl rfl (by kernel_rfl) (fun _ _ _ h => h) (Or.inl ⟨by rfl, ?_⟩) hHeld ?_ ?_
          rotate_left
          ·rintro w' rfl
           go_simp
           with_reducible rfl
          rotate_left
          ·simp only [Act.put, List.setIfInBounds_toArray, List.set_cons_zero, List.set_cons_succ, i64_w, i32_w]
           rfl
          refine take_ (i := 6) (N := some 106) (v := ?_) (a' := ?_) #[true, true, true, true, true, true, true, false] rfl rfl (by kernel_rfl) (fun _ _ _ h => h) (Or.inl ⟨by rfl, ?_⟩) hHeld ?_ ?_
          rotate_left
          ·rintro w' rfl
           go_simp
           with_reducible rfl
          rotate_left
          ·simp only [Act.put, List.setIfInBounds_toArray, List.set_cons_zero, List.set_cons_succ, i64_w, i32_w]
           rfl
          refine last_ (i := 7) (N := none) (mb_ 8 255) rfl rfl (by kernel_rfl) (by decide) (fun K hK => ?_)
          obtain ⟨wm, hrun, hmap, hturn⟩ := (HX5.out.2.2.1.drew.map).store (Maps.int_keyed Tryd.underlying2) Tryd.underlying63 (by unfold maxLen; omega) (key2 HW.out) (val := (.agg #[.int .i64 d0, .string d1, .string d2, .string d3, .string d4, .bool false]))
          refine skip_ (w1 := wm) (by rfl) rfl (by first | (go_simp; done) | (go_simp; rw [hrun]; rfl)) ?_
          clear hrun
          refine hK.out _ _ ?_
          clear hK K
          refine done_ (by kernel_rfl) ?_
          clear c0 c1 c2 c3 c4 c5 c6 c7 c8 y0 y1 y2 e0 e1 e2 e3 e4 e5 e6
          have HX6 := Lib.hid (show Elses (Two p m) w wm ∧ Blk wm w.heap.size [.int .i64 6, .int .i64 t, .int .i64 a0, .string a1, .string a2, .string a3, .string a4, .int .i64 c, .string x] 30 ∧ LivesAt wm p m (q + 1) last (putT f t (some (⟨d0, d1, d2, d3, d4⟩, false))) ∧ True from
            ⟨turned_elses HX5.out.1.drew hturn (.inr rfl), (turned_block hturn (by have := HPM.out; omega)).trans HX5.out.2.1, ⟨(turned_block hturn HPM.out.2.2).trans HX5.out.2.2.1.blk, hmap.congr (lf_put f t (⟨d0, d1, d2, d3, d4⟩, false)), HPM.out.2.2⟩, trivial⟩)
          clear hmap hturn
          obtain ⟨c0, c1, c2, c3, c4, c5, c6, c7, c8⟩ := nine HX6.out.2.1
          have y0 := HX6.out.2.2.1.blk.cell 0
          have y1 := HX6.out.2.2.1.blk.cell 1
          have y2 := HX6.out.2.2.1.blk.frozen 1
          simp at y0 y1 y2
          go_wp2_with (go_at_call 44; refine (ended_any _ _).mono ?_; rintro e w' ⟨rfl, rfl⟩)
          go_ret
          exact post_yes (by rw [HT.out, tp_yes HN.out (show (6 : Int) ≠ 1 by decide) (show (6 : Int) ≠ 2 by decide) (show (6 : Int) ≠ 9 by decide) (show (6 : Int) ≠ 3 by decide) HS.out.1 HS.out.2]; dsimp only; rw [if_neg (by decide), if_pos rfl]; rfl) HX6.out.1 HX6.out.2.2.1
      have n6 : (k == 6) = false := by simpa using k6
      by_cases k5 : k = 5
      · subst k5
        clear n1 n2 n9 n3
        cases ds with
        | false =>
          have hen : endedB 5 = true := rfl
          obtain ⟨c0, c1, c2, c3, c4, c5, c6, c7, c8⟩ := nine HX3.out.2.1
          have y0 := HX3.out.2.2.1.blk.cell 0
          have y1 := HX3.out.2.2.1.blk.cell 1
          have y2 := HX3.out.2.2.1.blk.frozen 1
          simp at y0 y1 y2
          obtain ⟨e0, e1, e2, e3, e4, e5⟩ := six HX3.out.2.2.2
          have e6 := HX3.out.2.2.2.frozen 5
          go_wp2_with fail
          go_ret
          exact post_no (by rw [HT.out, tp_yes HN.out (show (5 : Int) ≠ 1 by decide) (show (5 : Int) ≠ 2 by decide) (show (5 : Int) ≠ 9 by decide) (show (5 : Int) ≠ 3 by decide) HS.out.1 HS.out.2]; dsimp only; rw [if_neg (by decide), if_neg (by decide), if_pos rfl]; rfl) (by first | exact HX3.out.1 | exact HX3.out.1.set (.inr (Nat.le_of_lt HJ.out)) _)
        | true =>
          have hen : endedB 5 = true := rfl
          obtain ⟨c0, c1, c2, c3, c4, c5, c6, c7, c8⟩ := nine HX3.out.2.1
          have y0 := HX3.out.2.2.1.blk.cell 0
          have y1 := HX3.out.2.2.1.blk.cell 1
          have y2 := HX3.out.2.2.1.blk.frozen 1
          simp at y0 y1 y2
          obtain ⟨e0, e1, e2, e3, e4, e5⟩ := six HX3.out.2.2.2
          have e6 := HX3.out.2.2.2.frozen 5
          go_wp2_with fail
          refine start_ (n := 8) (S := fun w' => w' = wc.drew) (ds := [7]) #[false, false, false, false, false, false, false, false] (by kernel_rfl) rfl rfl (rfl) (fun hHeld => ?_)
          refine pq_ 0 100 (mb_ 8 1) rfl ?_
          refine pq_ 1 101 (mb_ 8 3) rfl ?_
          refine pq_ 2 102 (mb_ 8 7) rfl ?_
          refine take_ (i := 3) (N := some 103) (v := ?_) (a' := ?_) #[true, true, true, true, false, false, false, false] rfl rfl (by kernel_rfl) (fun _ _ _ h => h) (Or.inl ⟨by rfl, ?_⟩) hHeld ?_ ?_
          rotate_left
          ·rintro w' rfl
           go_simp
           with_reducible rfl
          rotate_left
          ·simp only [Act.put, List.setIfInBounds_toArray, List.set_cons_zero, List.set_cons_succ, i64_w, i32_w]
           rfl
          refine pq_ 4 104 (mb_ 8 31) rfl ?_
          refine take_ (i := 5) (N := some 105) (v := ?_) (a' := ?_) #[true, true, true, true, true, true, false, false] rfl rfl (by kernel_rfl) (fun _ _ _ h => h) (Or.inl ⟨by rfl, ?_⟩) hHeld ?_ ?_
          rotate_left
          ·rintro w' rfl
           go_simp
           with_reducible rfl
          rotate_left
          ·simp only [Act.put, List.setIfInBounds_toArray, List.set_cons_zero, List.set_cons_succ, i64_w, i32_w]
           rfl
          refine take_ (i := 6) (N := some 106) (v := ?_) (a' := ?_) #[true, true, true, true, true, true, true, false] rfl rfl (by kernel_rfl) (fun _ _ _ h => h) (Or.inl ⟨by rfl, ?_⟩) hHeld ?_ ?_
          rotate_left
          ·rintro w' rfl
           go_simp
           with_reducible rfl
          rotate_left
          ·simp only [Act.put, List.setIfInBounds_toArray, List.set_cons_zero, List.set_cons_succ, i64_w, i32_w]
           rfl
          refine last_ (i := 7) (N := none) (mb_ 8 255) rfl rfl (by kernel_rfl) (by decide) (fun K hK => ?_)
          obtain ⟨wm, hrun, hmap, hturn⟩ := (HX3.out.2.2.1.drew.map).store (Maps.int_keyed Tryd.underlying2) Tryd.underlying63 (by unfold maxLen; omega) (key2 HW.out) (val := (.agg #[.int .i64 d0, .string d1, .string d2, .string d3, .string d4, .bool true]))
          refine skip_ (w1 := wm) (by rfl) rfl (by first | (go_simp; done) | (go_simp; rw [hrun]; rfl)) ?_
          clear hrun
          refine hK.out _ _ ?_
          clear hK K
          refine done_ (by kernel_rfl) ?_
          clear c0 c1 c2 c3 c4 c5 c6 c7 c8 y0 y1 y2 e0 e1 e2 e3 e4 e5 e6
          have HX6 := Lib.hid (show Elses (Two p m) w wm ∧ Blk wm w.heap.size [.int .i64 5, .int .i64 t, .int .i64 a0, .string a1, .string a2, .string a3, .string a4, .int .i64 c, .string x] 30 ∧ LivesAt wm p m (q + 1) last (putT f t (some (⟨d0, d1, d2, d3, d4⟩, true))) ∧ True from
            ⟨turned_elses HX3.out.1.drew hturn (.inr rfl), (turned_block hturn (by have := HPM.out; omega)).trans HX3.out.2.1, ⟨(turned_block hturn HPM.out.2.2).trans HX3.out.2.2.1.blk, hmap.congr (lf_put f t (⟨d0, d1, d2, d3, d4⟩, true)), HPM.out.2.2⟩, trivial⟩)
          clear hmap hturn
          obtain ⟨c0, c1, c2, c3, c4, c5, c6, c7, c8⟩ := nine HX6.out.2.1
          have y0 := HX6.out.2.2.1.blk.cell 0
          have y1 := HX6.out.2.2.1.blk.cell 1
          have y2 := HX6.out.2.2.1.blk.frozen 1
          simp at y0 y1 y2
          go_wp2_with (go_at_call 44; refine (ended_any _ _).mono ?_; rintro e w' ⟨rfl, rfl⟩)
          refine start_ (n := 7) (S := fun w' => w' = wm.drew) (ds := [6]) #[false, false, false, false, false, false, false] (by kernel_rfl) rfl rfl (rfl) (fun hHeld => ?_)
          refine pq_ 0 110 (mb_ 7 1) rfl ?_
          refine pq_ 1 111 (mb_ 7 3) rfl ?_
          refine pq_ 2 112 (mb_ 7 7) rfl ?_
          refine take_ (i := 3) (N := some 113) (v := ?_) (a' := ?_) #[true, true, true, true, false, false, false] rfl rfl (by kernel_rfl) (fun _ _ _ h => h) (Or.inl ⟨by rfl, ?_⟩) hHeld ?_ ?_
          rotate_left
          ·rintro w' rfl
           go_simp
           with_reducible rfl
          rotate_left
          ·simp only [Act.put, List.setIfInBounds_toArray, List.set_cons_zero, List.set_cons_succ, i64_w, i32_w]
           rfl
          refine pq_ 4 114 (mb_ 7 31) rfl ?_
          refine take_ (i := 5) (N := some 115) (v := ?_) (a' := ?_) #[true, true, true, true, true, true, false] rfl rfl (by kernel_rfl) (fun _ _ _ h => h) (Or.inl ⟨by rfl, ?_⟩) hHeld ?_ ?_
          rotate_left
          ·rintro w' rfl
           go_simp
           with_reducible rfl
          rotate_left
          ·simp only [Act.put, List.setIfInBounds_toArray, List.set_cons_zero, List.set_cons_succ, i64_w, i32_w]
           rfl
          refine last_ (i := 6) (N := none) (mb_ 7 127) rfl rfl (by kernel_rfl) (by decide) (fun K hK => ?_)
          obtain ⟨wd, hrun, hmapd, hturnd⟩ := (HX6.out.2.2.1.drew.map).drop (Maps.int_keyed Tryd.underlying2) Tryd.underlying63 (key2 HW.out) 0
          refine value_ (w1 := wd) (v := .tuple #[]) (by rfl) rfl (by first | (go_simp; done) | (go_simp; rw [hrun]; rfl)) ?_
          clear hrun
          refine hK.out _ _ ?_
          clear hK K
          refine done_ (by kernel_rfl) ?_
          go_wp2_with fail
          go_ret
          exact post_yes (by rw [HT.out, tp_yes HN.out (show (5 : Int) ≠ 1 by decide) (show (5 : Int) ≠ 2 by decide) (show (5 : Int) ≠ 9 by decide) (show (5 : Int) ≠ 3 by decide) HS.out.1 HS.out.2]; dsimp only; rw [if_neg (by decide), if_neg (by decide), if_pos rfl]; rfl) (turned_elses HX6.out.1.drew hturnd (.inr rfl)) ⟨(turned_block hturnd HPM.out.2.2).trans HX6.out.2.2.1.blk, (hmapd.congr (lf_del _ t)).congr (fun _ _ => by rw [put_put]), HPM.out.2.2⟩
      have n5 : (k == 5) = false := by simpa using k5
      by_cases k7 : k = 7
      · subst k7
        clear n1 n2 n9 n3
        cases ds with
        | false =>
          have hen : endedB 7 = true := rfl
          obtain ⟨c0, c1, c2, c3, c4, c5, c6, c7, c8⟩ := nine HX3.out.2.1
          have y0 := HX3.out.2.2.1.blk.cell 0
          have y1 := HX3.out.2.2.1.blk.cell 1
          have y2 := HX3.out.2.2.1.blk.frozen 1
          simp at y0 y1 y2
          obtain ⟨e0, e1, e2, e3, e4, e5⟩ := six HX3.out.2.2.2
          have e6 := HX3.out.2.2.2.frozen 5
          go_wp2_with fail
          go_ret
          exact post_no (by rw [HT.out, tp_yes HN.out (show (7 : Int) ≠ 1 by decide) (show (7 : Int) ≠ 2 by decide) (show (7 : Int) ≠ 9 by decide) (show (7 : Int) ≠ 3 by decide) HS.out.1 HS.out.2]; dsimp only; rw [if_neg (by decide), if_neg (by decide), if_neg (by decide), if_pos rfl]; rfl) (by first | exact HX3.out.1 | exact HX3.out.1.set (.inr (Nat.le_of_lt HJ.out)) _)
        | true =>
          have hen : endedB 7 = true := rfl
          obtain ⟨c0, c1, c2, c3, c4, c5, c6, c7, c8⟩ := nine HX3.out.2.1
          have y0 := HX3.out.2.2.1.blk.cell 0
          have y1 := HX3.out.2.2.1.blk.cell 1
          have y2 := HX3.out.2.2.1.blk.frozen 1
          simp at y0 y1 y2
          obtain ⟨e0, e1, e2, e3, e4, e5⟩ := six HX3.out.2.2.2
          have e6 := HX3.out.2.2.2.frozen 5
          go_wp2_with fail
          refine start_ (n := 8) (S := fun w' => w' = wc.drew) (ds := [7]) #[false, false, false, false, false, false, false, false] (by kernel_rfl) rfl rfl (rfl) (fun hHeld => ?_)
          refine pq_ 0 100 (mb_ 8 1) rfl ?_
          refine pq_ 1 101 (mb_ 8 3) rfl ?_
          refine pq_ 2 102 (mb_ 8 7) rfl ?_
          refine take_ (i := 3) (N := some 103) (v := ?_) (a' := ?_) #[true, true, true, true, false, false, false, false] rfl rfl (by kernel_rfl) (fun _ _ _ h => h) (Or.inl ⟨by rfl, ?_⟩) hHeld ?_ ?_
          rotate_left
          ·rintro w' rfl
           go_simp
           with_reducible rfl
          rotate_left
          ·simp only [Act.put, List.setIfInBounds_toArray, List.set_cons_zero, List.set_cons_succ, i64_w, i32_w]
           rfl
          refine pq_ 4 104 (mb_ 8 31) rfl ?_
          refine take_ (i := 5) (N := some 105) (v := ?_) (a' := ?_) #[true, true, true, true, true, true, false, false] rfl rfl (by kernel_rfl) (fun _ _ _ h => h) (Or.inl ⟨by rfl, ?_⟩) hHeld ?_ ?_
          rotate_left
          ·rintro w' rfl
           go_simp
           with_reducible rfl
          rotate_left
          ·simp only [Act.put, List.setIfInBounds_toArray, List.set_cons_zero, List.set_cons_succ, i64_w, i32_w]
           rfl
          refine take_ (i := 6) (N := some 106) (v := ?_) (a' := ?_) #[true, true, true, true, true, true, true, false] rfl rfl (by kernel_rfl) (fun _ _ _ h => h) (Or.inl ⟨by rfl, ?_⟩) hHeld ?_ ?_
          rotate_left
          ·rintro w' rfl
           go_simp
           with_reducible rfl
          rotate_left
          ·simp only [Act.put, List.setIfInBounds_toArray, List.set_cons_zero, List.set_cons_succ, i64_w, i32_w]
           rfl
          refine last_ (i := 7) (N := none) (mb_ 8 255) rfl rfl (by kernel_rfl) (by decide) (fun K hK => ?_)
          obtain ⟨wm, hrun, hmap, hturn⟩ := (HX3.out.2.2.1.drew.map).store (Maps.int_keyed Tryd.underlying2) Tryd.underlying63 (by unfold maxLen; omega) (key2 HW.out) (val := (.agg #[.int .i64 d0, .string d1, .string d2, .string d3, .string d4, .bool true]))
          refine skip_ (w1 := wm) (by rfl) rfl (by first | (go_simp; done) | (go_simp; rw [hrun]; rfl)) ?_
          clear hrun
          refine hK.out _ _ ?_
          clear hK K
          refine done_ (by kernel_rfl) ?_
          clear c0 c1 c2 c3 c4 c5 c6 c7 c8 y0 y1 y2 e0 e1 e2 e3 e4 e5 e6
          have HX6 := Lib.hid (show Elses (Two p m) w wm ∧ Blk wm w.heap.size [.int .i64 7, .int .i64 t, .int .i64 a0, .string a1, .string a2, .string a3, .string a4, .int .i64 c, .string x] 30 ∧ LivesAt wm p m (q + 1) last (putT f t (some (⟨d0, d1, d2, d3, d4⟩, true))) ∧ True from
            ⟨turned_elses HX3.out.1.drew hturn (.inr rfl), (turned_block hturn (by have := HPM.out; omega)).trans HX3.out.2.1, ⟨(turned_block hturn HPM.out.2.2).trans HX3.out.2.2.1.blk, hmap.congr (lf_put f t (⟨d0, d1, d2, d3, d4⟩, true)), HPM.out.2.2⟩, trivial⟩)
          clear hmap hturn
          obtain ⟨c0, c1, c2, c3, c4, c5, c6, c7, c8⟩ := nine HX6.out.2.1
          have y0 := HX6.out.2.2.1.blk.cell 0
          have y1 := HX6.out.2.2.1.blk.cell 1
          have y2 := HX6.out.2.2.1.blk.frozen 1
          simp at y0 y1 y2
          go_wp2_with (go_at_call 44; refine (ended_any _ _).mono ?_; rintro e w' ⟨rfl, rfl⟩)
          refine start_ (n := 7) (S := fun w' => w' = wm.drew) (ds := [6]) #[false, false, false, false, false, false, false] (by kernel_rfl) rfl rfl (rfl) (fun hHeld => ?_)
          refine pq_ 0 110 (mb_ 7 1) rfl ?_
          refine pq_ 1 111 (mb_ 7 3) rfl ?_
          refine pq_ 2 112 (mb_ 7 7) rfl ?_
          refine take_ (i := 3) (N := some 113) (v := ?_) (a' := ?_) #[true, true, true, true, false, false, false] rfl rfl (by kernel_rfl) (fun _ _ _ h => h) (Or.inl ⟨by rfl, ?_⟩) hHeld ?_ ?_
          rotate_left
          ·rintro w' rfl
           go_simp
           with_reducible rfl
          rotate_left
          ·simp only [Act.put, List.setIfInBounds_toArray, List.set_cons_zero, List.set_cons_succ, i64_w, i32_w]
           rfl
          refine pq_ 4 114 (mb_ 7 31) rfl ?_
          refine take_ (i := 5) (N := some 115) (v := ?_) (a' := ?_) #[true, true, true, true, true, true, false] rfl rfl (by kernel_rfl) (fun _ _ _ h => h) (Or.inl ⟨by rfl, ?_⟩) hHeld ?_ ?_
          rotate_left
          ·rintro w' rfl
           go_simp
           with_reducible rfl
          rotate_left
          ·simp only [Act.put, List.setIfInBounds_toArray, List.set_cons_zero, List.set_cons_succ, i64_w, i32_w]
           rfl
          refine last_ (i := 6) (N := none) (mb_ 7 127) rfl rfl (by kernel_rfl) (by decide) (fun K hK => ?_)
          obtain ⟨wd, hrun, hmapd, hturnd⟩ := (HX6.out.2.2.1.drew.map).drop (Maps.int_keyed Tryd.underlying2) Tryd.underlying63 (key2 HW.out) 0
          refine value_ (w1 := wd) (v := .tuple #[]) (by rfl) rfl (by first | (go_simp; done) | (go_simp; rw [hrun]; rfl)) ?_
          clear hrun
          refine hK.out _ _ ?_
          clear hK K
          refine done_ (by kernel_rfl) ?_
          go_wp2_with fail
          go_ret
          exact post_yes (by rw [HT.out, tp_yes HN.out (show (7 : Int) ≠ 1 by decide) (show (7 : Int) ≠ 2 by decide) (show (7 : Int) ≠ 9 by decide) (show (7 : Int) ≠ 3 by decide) HS.out.1 HS.out.2]; dsimp only; rw [if_neg (by decide), if_neg (by decide), if_neg (by decide), if_pos rfl]; rfl) (turned_elses HX6.out.1.drew hturnd (.inr rfl)) ⟨(turned_block hturnd HPM.out.2.2).trans HX6.out.2.2.1.blk, (hmapd.congr (lf_del _ t)).congr (fun _ _ => by rw [put_put]), HPM.out.2.2⟩
      have n7 : (k == 7) = false := by simpa using k7
      by_cases k8 : k = 8
      · subst k8
        clear n1 n2 n9 n3
        cases ds with
        | false =>
          have hen : endedB 8 = true := rfl
          obtain ⟨c0, c1, c2, c3, c4, c5, c6, c7, c8⟩ := nine HX3.out.2.1
          have y0 := HX3.out.2.2.1.blk.cell 0
          have y1 := HX3.out.2.2.1.blk.cell 1
          have y2 := HX3.out.2.2.1.blk.frozen 1
          simp at y0 y1 y2
          obtain ⟨e0, e1, e2, e3, e4, e5⟩ := six HX3.out.2.2.2
          have e6 := HX3.out.2.2.2.frozen 5
          go_wp2_with fail
          refine start_ (n := 8) (S := fun w' => w' = wc.drew) (ds := [7]) #[false, false, false, false, false, false, false, false] (by kernel_rfl) rfl rfl (rfl) (fun hHeld => ?_)
          refine pq_ 0 100 (mb_ 8 1) rfl ?_
          refine pq_ 1 101 (mb_ 8 3) rfl ?_
          refine pq_ 2 102 (mb_ 8 7) rfl ?_
          refine take_ (i := 3) (N := some 103) (v := ?_) (a' := ?_) #[true, true, true, true, false, false, false, false] rfl rfl (by kernel_rfl) (fun _ _ _ h => h) (Or.inl ⟨by rfl, ?_⟩) hHeld ?_ ?_
          rotate_left
          ·rintro w' rfl
           go_simp
           with_reducible rfl
          rotate_left
          ·simp only [Act.put, List.setIfInBounds_toArray, List.set_cons_zero, List.set_cons_succ, i64_w, i32_w]
           rfl
          refine pq_ 4 104 (mb_ 8 31) rfl ?_
          refine take_ (i := 5) (N := some 105) (v := ?_) (a' := ?_) #[true, true, true, true, true, true, false, false] rfl rfl (by kernel_rfl) (fun _ _ _ h => h) (Or.inl ⟨by rfl, ?_⟩) hHeld ?_ ?_
          rotate_left
          ·rintro w' rfl
           go_simp
           with_reducible rfl
          rotate_left
          ·simp only [Act.put, List.setIfInBounds_toArray, List.set_cons_zero, List.set_cons_succ, i64_w, i32_w]
           rfl
          refine take_ (i := 6) (N := some 106) (v := ?_) (a' := ?_) #[true, true, true, true, true, true, true, false] rfl rfl (by kernel_rfl) (fun _ _ _ h => h) (Or.inl ⟨by rfl, ?_⟩) hHeld ?_ ?_
          rotate_left
          ·rintro w' rfl
           go_simp
           with_reducible rfl
          rotate_left
          ·simp only [Act.put, List.setIfInBounds_toArray, List.set_cons_zero, List.set_cons_succ, i64_w, i32_w]
           rfl
          refine last_ (i := 7) (N := none) (mb_ 8 255) rfl rfl (by kernel_rfl) (by decide) (fun K hK => ?_)
          obtain ⟨wm, hrun, hmap, hturn⟩ := (HX3.out.2.2.1.drew.map).store (Maps.int_keyed Tryd.underlying2) Tryd.underlying63 (by unfold maxLen; omega) (key2 HW.out) (val := (.agg #[.int .i64 d0, .string d1, .string d2, .string d3, .string d4, .bool false]))
          refine skip_ (w1 := wm) (by rfl) rfl (by first | (go_simp; done) | (go_simp; rw [hrun]; rfl)) ?_
          clear hrun
          refine hK.out _ _ ?_
          clear hK K
          refine done_ (by kernel_rfl) ?_
          clear c0 c1 c2 c3 c4 c5 c6 c7 c8 y0 y1 y2 e0 e1 e2 e3 e4 e5 e6
          have HX6 := Lib.hid (show Elses (Two p m) w wm ∧ Blk wm w.heap.size [.int .i64 8, .int .i64 t, .int .i64 a0, .string a1, .string a2, .string a3, .string a4, .int .i64 c, .string x] 30 ∧ LivesAt wm p m (q + 1) last (putT f t (some (⟨d0, d1, d2, d3, d4⟩, false))) ∧ True from
            ⟨turned_elses HX3.out.1.drew hturn (.inr rfl), (turned_block hturn (by have := HPM.out; omega)).trans HX3.out.2.1, ⟨(turned_block hturn HPM.out.2.2).trans HX3.out.2.2.1.blk, hmap.congr (lf_put f t (⟨d0, d1, d2, d3, d4⟩, false)), HPM.out.2.2⟩, trivial⟩)
          clear hmap hturn
          obtain ⟨c0, c1, c2, c3, c4, c5, c6, c7, c8⟩ := nine HX6.out.2.1
          have y0 := HX6.out.2.2.1.blk.cell 0
          have y1 := HX6.out.2.2.1.blk.cell 1
          have y2 := HX6.out.2.2.1.blk.frozen 1
          simp at y0 y1 y2
          go_wp2_with (go_at_call 44; refine (ended_any _ _).mono ?_; rintro e w' ⟨rfl, rfl⟩)
          refine start_ (n := 7) (S := fun w' => w' = wm.drew) (ds := [6]) #[false, false, false, false, false, false, false] (by kernel_rfl) rfl rfl (rfl) (fun hHeld => ?_)
          refine pq_ 0 110 (mb_ 7 1) rfl ?_
          refine pq_ 1 111 (mb_ 7 3) rfl ?_
          refine pq_ 2 112 (mb_ 7 7) rfl ?_
          refine take_ (i := 3) (N := some 113) (v := ?_) (a' := ?_) #[true, true, true, true, false, false, false] rfl rfl (by kernel_rfl) (fun _ _ _ h => h) (Or.inl ⟨by rfl, ?_⟩) hHeld ?_ ?_
          rotate_left
          ·rintro w' rfl
           go_simp
           with_reducible rfl
          rotate_left
          ·simp only [Act.put, List.setIfInBounds_toArray, List.set_cons_zero, List.set_cons_succ, i64_w, i32_w]
           rfl
          refine pq_ 4 114 (mb_ 7 31) rfl ?_
          refine take_ (i := 5) (N := some 115) (v := ?_) (a' := ?_) #[true, true, true, true, true, true, false] rfl rfl (by kernel_rfl) (fun _ _ _ h => h) (Or.inl ⟨by rfl, ?_⟩) hHeld ?_ ?_
          rotate_left
          ·rintro w' rfl
           go_simp
           with_reducible rfl
          rotate_left
          ·simp only [Act.put, List.setIfInBounds_toArray, List.set_cons_zero, List.set_cons_succ, i64_w, i32_w]
           rfl
          refine last_ (i := 6) (N := none) (mb_ 7 127) rfl rfl (by kernel_rfl) (by decide) (fun K hK => ?_)
          obtain ⟨wd, hrun, hmapd, hturnd⟩ := (HX6.out.2.2.1.drew.map).drop (Maps.int_keyed Tryd.underlying2) Tryd.underlying63 (key2 HW.out) 0
          refine value_ (w1 := wd) (v := .tuple #[]) (by rfl) rfl (by first | (go_simp; done) | (go_simp; rw [hrun]; rfl)) ?_
          clear hrun
          refine hK.out _ _ ?_
          clear hK K
          refine done_ (by kernel_rfl) ?_
          go_wp2_with fail
          go_ret
          exact post_yes (by rw [HT.out, tp_yes HN.out (show (8 : Int) ≠ 1 by decide) (show (8 : Int) ≠ 2 by decide) (show (8 : Int) ≠ 9 by decide) (show (8 : Int) ≠ 3 by decide) HS.out.1 HS.out.2]; dsimp only; rw [if_neg (by decide), if_neg (by decide), if_neg (by decide), if_neg (by decide), if_pos rfl]; rfl) (turned_elses HX6.out.1.drew hturnd (.inr rfl)) ⟨(turned_block hturnd HPM.out.2.2).trans HX6.out.2.2.1.blk, (hmapd.congr (lf_del _ t)).congr (fun _ _ => by rw [put_put]), HPM.out.2.2⟩
        | true =>
          have hen : endedB 8 = true := rfl
          obtain ⟨c0, c1, c2, c3, c4, c5, c6, c7, c8⟩ := nine HX3.out.2.1
          have y0 := HX3.out.2.2.1.blk.cell 0
          have y1 := HX3.out.2.2.1.blk.cell 1
          have y2 := HX3.out.2.2.1.blk.frozen 1
          simp at y0 y1 y2
          obtain ⟨e0, e1, e2, e3, e4, e5⟩ := six HX3.out.2.2.2
          have e6 := HX3.out.2.2.2.frozen 5
          go_wp2_with fail
          go_ret
          exact post_no (by rw [HT.out, tp_yes HN.out (show (8 : Int) ≠ 1 by decide) (show (8 : Int) ≠ 2 by decide) (show (8 : Int) ≠ 9 by decide) (show (8 : Int) ≠ 3 by decide) HS.out.1 HS.out.2]; dsimp only; rw [if_neg (by decide), if_neg (by decide), if_neg (by decide), if_neg (by decide), if_pos rfl]; rfl) (by first | exact HX3.out.1 | exact HX3.out.1.set (.inr (Nat.le_of_lt HJ.out)) _)
      have n8 : (k == 8) = false := by simpa using k8
      obtain ⟨c0, c1, c2, c3, c4, c5, c6, c7, c8⟩ := nine HX3.out.2.1
      have y0 := HX3.out.2.2.1.blk.cell 0
      have y1 := HX3.out.2.2.1.blk.cell 1
      have y2 := HX3.out.2.2.1.blk.frozen 1
      simp at y0 y1 y2
      obtain ⟨e0, e1, e2, e3, e4, e5⟩ := six HX3.out.2.2.2
      have e6 := HX3.out.2.2.2.frozen 5
      go_wp2_with fail
      go_ret
      exact post_no (by rw [HT.out, tp_yes HN.out k1 k2 k9 k3 HS.out.1 HS.out.2, if_neg k4, if_neg k6, if_neg k5, if_neg k7, if_neg k8]) HX3.out.1
end Go.Proofs.YtlmhgnkkdjpkcaaDoorG
