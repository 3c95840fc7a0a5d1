/- outlawref25.Bytes: a script's bytes, or what is wrong: what script.Bytes answers. -/
import Derived.Test.YtfgibjkgiolonaaWm
import Derived.Test.YtfgibjkgiolonaaSm
import Derived.Test.YtfgibjkgiolonaaSp
import Derived.Test.YtfgibjkgiolonaaSc
import Derived.Test.YtfgibjkgiolonaaTm
import Derived.Test.YtfgibjkgiolonaaSz
set_option linter.unusedVariables false
set_option linter.unusedSimpArgs false
namespace Go.Proofs.YtfgibjkgiolonaaS
open Go.RowKit Go.Proofs.YtfgibjkgiolonaaW.PrintWords Go.Proofs.YtfgibjkgiolonaaW.PrintLast Go.Proofs.YtfgibjkgiolonaaW.PrintMore Go.Proofs.YtfgibjkgiolonaaX Go.Proofs.Ytfgibjkgiolonaa.PA Go.Proofs.YtfgibjkgiolonaaG Go.Proofs.YtfgibjkgiolonaaQ
theorem exec_app {a : Act} {o : Oper} {sl x : Operand} {v v' : Value} {s : ByteArray} {w w' : World} (ho : o.op = .call { callee := .builtin .append, args := #[sl, x], argTypes := #[37, 9] }) (hs : a.eval sl = v) (hx : a.eval x = .string s) (hr : (Builtin.append_ #[37, 9] o.type #[v, .string s]).run Try.prog w = .ok v' w') : (execOp a.eval o).run Try.prog w = .ok (.value v') w' := by
 unfold execOp
 simp only [ho, resolve, invoke, builtin, Sem.run_bind, Sem.run_pure, Result.andThen_ok, List.map_toArray, List.map_cons, List.map_nil, hs, hx, hr]
theorem exec_937 {a : Act} {o : Oper} {x : Operand} {v : Value} {s : ByteArray} {w w' : World} (ho : o.op = .convert 9 37 x) (hx : a.eval x = .string s) (hr : (convert 9 37 (.string s)).run Try.prog w = .ok v w') : (execOp a.eval o).run Try.prog w = .ok (.value v) w' := by
 unfold execOp
 simp only [ho, Sem.run_bind, Sem.run_pure, Result.andThen_ok, hx, hr]
theorem exec_379 {a : Act} {o : Oper} {x : Operand} {v : Value} {s : ByteArray} {w : World} (ho : o.op = .convert 37 9 x) (hx : a.eval x = v) (hr : (convert 37 9 v).run Try.prog w = .ok (.string s) w) : (execOp a.eval o).run Try.prog w = .ok (.value (.string s)) w := by
 unfold execOp
 simp only [ho, Sem.run_bind, Sem.run_pure, Result.andThen_ok, hx, hr]
theorem wpList_rowM {ops : Array Oper} {rest : List Oper} {o : Oper} {a : Act} {Q : Exit → Act → World → Prop} {w : World} (hgd : o.guard = none) (sl x : Operand) (ho : o.op = .call { callee := .builtin .append, args := #[sl, x], argTypes := #[37, 9] })
  (base : Nat) (v : Value) (xs : List Int) (s : ByteArray) (hs : a.eval sl = v) (hx : a.eval x = .string s) (H : RowM w base v xs) (hb : base ≤ w.heap.size) (hl : xs.length + s.size ≤ 140737488355328)
  (h : ∀ v' w', RowM w' base v' (xs ++ bytesOf s) → w.grownBy w' v.ownBlock → (v'.ownBlock = v.ownBlock ∨ ∃ b, v'.ownBlock = some b ∧ w.heap.size ≤ b) → wpList Try.prog ops Q rest (a.put o.dst v') w') : wpList Try.prog ops Q (o :: rest) a w := by
 refine wpList_plain hgd fun K hK => ?_
 obtain ⟨v', w', hr, h2, h3, h4⟩ := rowM_append w base v xs s o.type H hb hl
 unfold Oper.wp
 rw [exec_app ho hs hx hr]
 exact hK _ _ (h v' w' h2 h3 h4)
theorem byte_reads {w : World} {g : Nat} {b : Int} (h : w.cell? ⟨g, 0, none⟩ = some (.int .u8 b)) : (convert 37 9 (.slice (some ⟨g, 0, none⟩) 1 1)).run Try.prog w = .ok (.string (strOfNums [b])) w :=
 string_of_reads (xs := [b]) Try.underlying37 Try.underlying5 Try.underlying9 ⟨rfl, by decide, fun _ => ⟨_, rfl, fun j hj => by
  obtain rfl : j = 0 := by omega
  exact h⟩⟩
theorem s0_below {w w1 w2 : World} {B : Array Value} (h : Blk w1 w.heap.size B 24 ∧ Below w.heap.size w w1) (hb : Below w1.heap.size w1 w2) : Blk w2 w.heap.size B 24 ∧ Below w.heap.size w w2 := ⟨h.1.below hb h.1.lt, h.2.trans (hb.mono h.2.size)⟩
theorem s0_alloc {w w1 : World} {B : Array Value} (h : Blk w1 w.heap.size B 24 ∧ Below w.heap.size w w1) (o : Obj) : Blk (w1.alloc o) w.heap.size B 24 ∧ Below w.heap.size w (w1.alloc o) := ⟨h.1.alloc o, below_alloc h.2 o⟩
theorem u8_w (n : Nat) (h : n ≤ 255) : IntKind.u8.wrap (n : Int) = (n : Int) := by
 rw [IntKind.wrap_u8]; omega
theorem wpList_379 {ops : Array Oper} {rest : List Oper} {o : Oper} {a : Act} {Q : Exit → Act → World → Prop} {w : World} (hgd : o.guard = none) (x : Operand) (ho : o.op = .convert 37 9 x) (v : Value) (s : ByteArray) (hx : a.eval x = v) (hr : (convert 37 9 v).run Try.prog w = .ok (.string s) w)
  (h : wpList Try.prog ops Q rest (a.put o.dst (.string s)) w) : wpList Try.prog ops Q (o :: rest) a w := by
 refine wpList_plain hgd fun K hK => ?_
 unfold Oper.wp
 rw [exec_379 ho hx hr]
 exact hK _ _ h
theorem rowM_own {w : World} {base : Nat} {v : Value} {xs : List Int} (h : RowM w base v xs) : (∀ k, v.ownBlock = some k → base ≤ k) ∧ ∀ {I : Nat} {c : Array Value} {t : TypeId}, Blk w I c t → t ≠ 5 → some I ≠ v.ownBlock := by
 obtain ⟨g, cap, cur, m, rfl, h1, h2, h3⟩ := h
 refine ⟨fun k hk => ?_, fun {I c t} hI ht he => ?_⟩
 ·have : g = k := by simpa [Value.ownBlock] using hk
  omega
 ·have : I = g := by simpa [Value.ownBlock] using he
  subst this
  unfold Blk at hI
  rw [h2] at hI
  injection hI with hI
  injection hI with _ hI
  exact ht hI.symm
theorem blk_rowM {w w1 : World} {base I : Nat} {v : Value} {xs : List Int} {c : Array Value} {t : TypeId} (h : Blk w I c t) (H : RowM w base v xs) (hg : w.grownBy w1 v.ownBlock) (ht : t ≠ 5) : Blk w1 I c t := by
 have hl := h.lt
 have hn := (rowM_own H).2 h ht
 unfold Blk at h ⊢
 rw [hg.block I hl hn]
 exact h
theorem below_rowM {a w w1 : World} {base : Nat} {v : Value} {xs : List Int} (h : Below base a w) (hb : base ≤ a.heap.size) (H : RowM w base v xs) (hg : w.grownBy w1 v.ownBlock) : Below base a w1 := h.grown hg (Nat.le_trans hb h.size) (rowM_own H).1
def headL (bot : ByteArray) (sec : Int) (n : Nat) : List Int := ((bot.size : Int) % 256) :: (bytesOf bot ++ (twoL sec ++ twoL (n : Int)))
theorem bytesOf_append_ (a b : ByteArray) : bytesOf (a ++ b) = bytesOf a ++ bytesOf b := by simp [bytesOf, ByteArray.data_append]
theorem scr_split (bot : ByteArray) (sec : Int) (l : List S45) : scrL bot sec l = headL bot sec l.length ++ stepsL l := by simp [scrL, headL]
theorem head_len (bot : ByteArray) (sec : Int) (n : Nat) : (headL bot sec n).length = bot.size + 5 := by simp [headL, twoL, bytesOf_length]
theorem steps_take {l : List S45} {q : Nat} (hq : q < l.length) : stepsL (l.take (q + 1)) = stepsL (l.take q) ++ stepL (rd_T45 l q) := by
 have r1 : rd_T45 l (q : Int) = l[q] := by unfold rd_T45; simp [List.getD_eq_getElem?_getD, List.getElem?_eq_getElem hq]
 rw [r1]
 unfold stepsL
 rw [List.take_succ_eq_append_getElem hq, List.flatMap_append, List.flatMap_cons, List.flatMap_nil, List.append_nil]
theorem cuts_take {l : List Int} {p : Nat} (hp : p < l.length) : cutsL (l.take (p + 1)) = cutsL (l.take p) ++ twoL (l.getD p 0) := by
 have r1 : l.getD p 0 = l[p] := by simp [List.getD_eq_getElem?_getD, List.getElem?_eq_getElem hp]
 rw [r1]
 unfold cutsL
 rw [List.take_succ_eq_append_getElem hp, List.flatMap_append, List.flatMap_cons, List.flatMap_nil, List.append_nil]
theorem steps_len {l : List S45} (h : ∀ x ∈ l, wrongS x = 0) : (stepsL l).length ≤ 5000 * l.length := by
 induction l with
 | nil => simp [stepsL]
 | cons x l ih =>
  have h1 := step_length (h x List.mem_cons_self)
  have h2 := ih (fun y hy => h y (List.mem_cons_of_mem _ hy))
  have : stepsL (x :: l) = stepL x ++ stepsL l := by simp [stepsL]
  rw [this, List.length_append, List.length_cons]
  omega
theorem cuts_len (l : List Int) : (cutsL l).length = 2 * l.length := by
 induction l with
 | nil => rfl
 | cons x l ih =>
  have : cutsL (x :: l) = twoL x ++ cutsL l := by simp [cutsL]
  rw [this, List.length_append, ih, List.length_cons]
  show 2 + _ = _
  omega
theorem rec_len {x : S45} (h : wrongS x = 0) : (recS x.f1).length ≤ 5000 := by
 have := step_length h
 unfold stepL at this
 rw [List.length_cons, List.length_append, List.length_append] at this
 omega
theorem s12_below {w w1 w2 : World} {I : Nat} {B C : Array Value} (h : Blk w1 I C 45 ∧ Blk w1 w.heap.size B 24 ∧ Below w.heap.size w w1) (hb : Below w1.heap.size w1 w2) : Blk w2 I C 45 ∧ Blk w2 w.heap.size B 24 ∧ Below w.heap.size w w2 := ⟨h.1.below hb h.1.lt, h.2.1.below hb h.2.1.lt, h.2.2.trans (hb.mono h.2.2.size)⟩
theorem s12_alloc {w w1 : World} {I : Nat} {B C : Array Value} (h : Blk w1 I C 45 ∧ Blk w1 w.heap.size B 24 ∧ Below w.heap.size w w1) (o : Obj) : Blk (w1.alloc o) I C 45 ∧ Blk (w1.alloc o) w.heap.size B 24 ∧ Below w.heap.size w (w1.alloc o) := ⟨h.1.alloc o, h.2.1.alloc o, below_alloc h.2.2 o⟩
set_option maxHeartbeats 8000000 in
set_option maxRecDepth 100000 in
theorem refbytes_any (bot : ByteArray) (sec : Int) (A : Option Addr) (c : Nat) (l : List S45) (w : World) (hl : Kd.C k45 w A l.length l) (hc : l.length ≤ c) (hf : fewCuts l) (hb : bot.size ≤ 140737488351232) (r : ByteArray × Int) (hr : bytesS bot sec l = r) :
  Calls Try.prog 19 #[.agg #[.string bot, .int .i64 sec, .slice A l.length c]] w fun e w' => e = .returned (.tuple #[.string r.1, .int .i64 r.2]) ∧ Below w.heap.size w w' := by
 obtain ⟨⟨c1, c2⟩, hck⟩ : ∃ z, checkS bot sec l = z := ⟨_, rfl⟩
 obtain ⟨kc, hkc⟩ := (refcheck_ev bot sec l hf hb).rounds
 rw [hck] at hkc
 have HP := Lib.hid (And.intro hl (And.intro hc (And.intro hf (And.intro hkc (And.intro hck hr)))))
 have HX := Lib.hid (Blk.new w #[.string bot, .int .i64 sec, .slice A l.length c] 24)
 have HB := Lib.hid ((Below.refl w.heap.size w).alloc (Nat.le_refl _) (.cells #[.string bot, .int .i64 sec, .slice A l.length c] 24))
 clear hl hc hf hb hr hck hkc
 go_enter Try.func19, Try.ntmps19
 go_wp2_with fail
 refine (outlawref25_Check.calls kc bot sec A c l c1 c2 _ (Kd.C_below HP.out.1 HB.out) HP.out.2.1 HP.out.2.2.2.1).mono ?_
 rintro e w1 ⟨rfl, hb⟩
 replace HX := Lib.hid (HX.out.below hb HX.out.lt)
 replace HB := Lib.hid (HB.out.trans (hb.mono HB.out.size))
 clear hb
 by_cases h0 : c2 = 0
 ·subst h0
  have HZ := Lib.hid (check_zero (show (checkS bot sec l).2 = 0 by rw [HP.out.2.2.2.2.1]))
  have HR := Lib.hid (show r = (strOfNums (scrL bot sec l), 0) by rw [← HP.out.2.2.2.2.2]; unfold bytesS; rw [HP.out.2.2.2.2.1]; rfl)
  obtain rfl := HR.out
  obtain ⟨x0, x1, x2, -, -, -⟩ := three HX.out
  go_wp2_with fail
  refine start_ (n := 20) (S := fun w' => Blk w' w.heap.size #[.string bot, .int .i64 sec, .slice A l.length c] 24 ∧ Below w.heap.size w w') (ds := []) #[false, false, false, false, false, false, false, false, false, false, false, false, false, false, false, false, false, false, false, false] (by as_aux_lemma => kernel_rfl) rfl rfl (⟨HX.out.drew, HB.out.drew⟩) (fun hHeld => ?_)
  clear x0 x1 x2 HX HB
  generalize w1.drew = v0 at hHeld ⊢
  refine pq_ 0 20 (mb_ 20 1) rfl ?_
  refine take_ (i := 1) (N := some 21) (v := ?_) (a' := ?_) #[true, true, false, false, false, false, false, false, false, false, false, false, false, false, false, false, false, false, false, false] rfl rfl (by as_aux_lemma => kernel_rfl) (fun _ _ _ h => h) (Or.inl ⟨by rfl, ?_⟩) hHeld ?_ ?_
  rotate_left
  ·rintro w' ⟨sA, sW⟩
   have q2 : w'.cell? ⟨w.heap.size, 0, none⟩ = some (.string bot) := sA.cell 0
   go_simp
   with_reducible rfl
  rotate_left
  ·simp only [Act.put, List.setIfInBounds_toArray, List.set_cons_zero, List.set_cons_succ, i64_w, i32_w]
   rfl
  refine pq_ 2 22 (mb_ 20 7) rfl ?_
  refine pq_ 3 23 (mb_ 20 15) rfl ?_
  refine pq_ 6 26 (mb_ 20 79) rfl ?_
  refine take_ (i := 7) (N := some 27) (v := ?_) (a' := ?_) #[true, true, true, true, false, false, true, true, false, false, false, false, false, false, false, false, false, false, false, false] rfl rfl (by as_aux_lemma => kernel_rfl) (fun _ _ _ h => h) (Or.inl ⟨by rfl, ?_⟩) hHeld ?_ ?_
  rotate_left
  ·rintro w' ⟨sA, sW⟩
   have q2 : w'.cell? ⟨w.heap.size, 0, none⟩ = some (.string bot) := sA.cell 0
   go_simp
   with_reducible rfl
  rotate_left
  ·simp only [Act.put, List.setIfInBounds_toArray, List.set_cons_zero, List.set_cons_succ, i64_w, i32_w]
   rfl
  refine pq_ 9 29 (mb_ 20 719) rfl ?_
  refine take_ (i := 10) (N := some 30) (v := ?_) (a' := ?_) #[true, true, true, true, false, false, true, true, false, true, true, false, false, false, false, false, false, false, false, false] rfl rfl (by as_aux_lemma => kernel_rfl) (fun _ _ _ h => h) (Or.inl ⟨by rfl, ?_⟩) hHeld ?_ ?_
  rotate_left
  ·rintro w' ⟨sA, sW⟩
   have q2 : w'.cell? ⟨w.heap.size, 1, none⟩ = some (.int .i64 sec) := sA.cell 1
   go_simp
   with_reducible rfl
  rotate_left
  ·simp only [Act.put, List.setIfInBounds_toArray, List.set_cons_zero, List.set_cons_succ, i64_w, i32_w]
   rfl
  refine pq_ 13 33 (mb_ 20 9935) rfl ?_
  refine take_ (i := 14) (N := some 34) (v := ?_) (a' := ?_) #[true, true, true, true, false, false, true, true, false, true, true, false, false, true, true, false, false, false, false, false] rfl rfl (by as_aux_lemma => kernel_rfl) (fun _ _ _ h => h) (Or.inl ⟨by rfl, ?_⟩) hHeld ?_ ?_
  rotate_left
  ·rintro w' ⟨sA, sW⟩
   have q2 : w'.cell? ⟨w.heap.size, 2, none⟩ = some (.slice A l.length c) := sA.cell 2
   go_simp
   with_reducible rfl
  rotate_left
  ·simp only [Act.put, List.setIfInBounds_toArray, List.set_cons_zero, List.set_cons_succ, i64_w, i32_w]
   rfl
  refine pq_ 15 35 (mb_ 20 59087) rfl ?_
  have hbs := user_size HZ.out.2.1
  have hbu := u8_w bot.size hbs
  rw [hbu]
  obtain ⟨P1, HP1⟩ : ∃ z, Hid (strOfNums [(bot.size : Int)] = z) := ⟨_, Lib.hid rfl⟩
  obtain ⟨T1, HT1⟩ : ∃ z, Hid (outlawref25_two.f sec = some z) := ⟨_, Lib.hid rfl⟩
  obtain ⟨T2, HT2⟩ : ∃ z, Hid (outlawref25_two.f (l.length : Int) = some z) := ⟨_, Lib.hid rfl⟩
  have HV := Lib.hid (show T1 = strOfNums (twoL sec) ∧ T2 = strOfNums (twoL (l.length : Int)) from ⟨(Option.some.inj HT1.out).symm, (Option.some.inj HT2.out).symm⟩)
  have hz1 : P1.size = 1 := by rw [← HP1.out, str_size]; rfl
  have hz2 : T1.size = 2 := by rw [HV.out.1, str_size]; rfl
  have hz3 : T2.size = 2 := by rw [HV.out.2, str_size]; rfl
  have hz4 : (P1 ++ bot).size = 1 + bot.size := by rw [ByteArray.size_append, hz1]
  have hz5 : (P1 ++ bot ++ T1).size = 1 + bot.size + 2 := by rw [ByteArray.size_append, hz4, hz2]
  have hz6 : (P1 ++ bot ++ T1 ++ T2).size = 1 + bot.size + 2 + 2 := by rw [ByteArray.size_append, hz5, hz3]
  have hq1 : (9223372036854775807 < 1 + bot.size) = False := eq_false (by omega)
  have hq2 : (9223372036854775807 < 1 + bot.size + 2) = False := eq_false (by omega)
  have hq3 : (9223372036854775807 < 1 + bot.size + 2 + 2) = False := eq_false (by omega)
  refine join_ (σ := Value) 2 (mb_ 20 262143) (fun s_ => [(24, s_), (25, .string P1), (28, .string (P1 ++ bot)), (31, .string T1), (32, .string (P1 ++ bot ++ T1)), (36, .string T2), (37, .string (P1 ++ bot ++ T1 ++ T2))]) (fun _ w' => Blk w' w.heap.size #[.string bot, .int .i64 sec, .slice A l.length c] 24 ∧ Below w.heap.size w w') ?_ ?_
  rotate_left
  ·intro hCont
   refine two_ (i := 4) (j := 11) (Ni := some 24) (Nj := some 31) (mb_ 20 59103) (mb_ 20 61135) rfl rfl rfl rfl (by as_aux_lemma => kernel_rfl) (by decide) (by decide) (fun K hK => ?_) (fun K hK => ?_)
   ·skip
    refine value_ (w1 := v0.alloc (.cells #[.int .u8 (bot.size : Int)] 5)) (v := .slice (some ⟨v0.heap.size, 0, none⟩) 1 1) (by rfl) rfl ?_ ?_
    ·go_simp
    have hS2 := s0_alloc hHeld (.cells #[.int .u8 (bot.size : Int)] 5)
    have hC : (v0.alloc (.cells #[.int .u8 (bot.size : Int)] 5)).cell? ⟨v0.heap.size, 0, none⟩ = some (.int .u8 (bot.size : Int)) := (Blk.new v0 #[.int .u8 (bot.size : Int)] 5).cell 0
    refine hK.out _ _ hS2 (fun hHeld2 => ?_)
    clear hK K hHeld hS2
    have hHeld := hHeld2
    clear hHeld2
    generalize v0.alloc (.cells #[.int .u8 (bot.size : Int)] 5) = v1 at hC hHeld ⊢
    generalize v0.heap.size = g at hC ⊢
    refine norm_ (a' := ?_) ?_ ?_
    rotate_left
    ·show Act.put _ (some 24) _ = _
     simp only [Act.put, List.setIfInBounds_toArray, List.set_cons_zero, List.set_cons_succ, i64_w, i32_w]
     rfl
    refine two_ (i := 5) (j := 11) (Ni := some 25) (Nj := some 31) (mb_ 20 59135) (mb_ 20 61151) rfl rfl rfl rfl (by as_aux_lemma => kernel_rfl) (by decide) (by decide) (fun K hK => ?_) (fun K hK => ?_)
    ·skip
     refine value_ (w1 := v1) (by rfl) rfl (exec_379 (s := P1) rfl rfl (by rw [← HP1.out]; exact byte_reads hC)) ?_
     refine hK.out _ _ hHeld (fun hHeld2 => ?_)
     clear hK K hHeld2
     refine norm_ (a' := ?_) ?_ ?_
     rotate_left
     ·show Act.put _ (some 25) _ = _
      simp only [Act.put, List.setIfInBounds_toArray, List.set_cons_zero, List.set_cons_succ, i64_w, i32_w]
      rfl
     refine pq_ 8 28 (mb_ 20 59391) rfl ?_
     refine one_ (i := 11) (N := some 31) (mb_ 20 61439) rfl rfl (by as_aux_lemma => kernel_rfl) (by decide) (fun K hK => ?_)
     refine goes_ Try.func38 (by as_aux_lemma => kernel_rfl) rfl #[.int .i64 sec] (by rfl) rfl rfl (by (try simp only [List.map_toArray, List.map_cons, List.map_nil]); first | done | rfl) ?_
     refine (outlawref25_two.calls sec T1 _ HT1.out).mono ?_
     rintro e v2 ⟨rfl, hb⟩
     refine ⟨_, rfl, ?_⟩
     have hS2 := s0_below hHeld hb
     have hC2 := (hb.cell (World.block_lt_of_cell? _ _ hC)).trans hC
     clear hC
     have hC := hC2
     clear hC2
     refine hK.out _ _ hS2 (fun hHeld2 => ?_)
     clear hK K hHeld hS2 hb
     have hHeld := hHeld2
     clear hHeld2
     refine norm_ (a' := ?_) ?_ ?_
     rotate_left
     ·show Act.put _ (some 31) _ = _
      simp only [Act.put, List.setIfInBounds_toArray, List.set_cons_zero, List.set_cons_succ, i64_w, i32_w]
      rfl
     refine pq_ 12 32 (mb_ 20 65535) rfl ?_
     refine one_ (i := 16) (N := some 36) (mb_ 20 131071) rfl rfl (by as_aux_lemma => kernel_rfl) (by decide) (fun K hK => ?_)
     refine goes_ Try.func38 (by as_aux_lemma => kernel_rfl) rfl #[.int .i64 (l.length : Int)] (by rfl) rfl rfl (by (try simp only [List.map_toArray, List.map_cons, List.map_nil]); first | done | rfl) ?_
     refine (outlawref25_two.calls (l.length : Int) T2 _ HT2.out).mono ?_
     rintro e v3 ⟨rfl, hb⟩
     refine ⟨_, rfl, ?_⟩
     have hS2 := s0_below hHeld hb
     have hC2 := (hb.cell (World.block_lt_of_cell? _ _ hC)).trans hC
     clear hC
     have hC := hC2
     clear hC2
     refine hK.out _ _ hS2 (fun hHeld2 => ?_)
     clear hK K hHeld hS2 hb
     have hHeld := hHeld2
     clear hHeld2
     refine norm_ (a' := ?_) ?_ ?_
     rotate_left
     ·show Act.put _ (some 36) _ = _
      simp only [Act.put, List.setIfInBounds_toArray, List.set_cons_zero, List.set_cons_succ, i64_w, i32_w]
      rfl
     refine pq_ 17 37 (mb_ 20 262143) rfl ?_
     exact norm_ (by simp only [putAll, Act.put, List.setIfInBounds_toArray, List.set_cons_zero, List.set_cons_succ]) (hCont (.slice (some ⟨g, 0, none⟩) 1 1) _ hHeld)
    ·skip
     refine goes_ Try.func38 (by as_aux_lemma => kernel_rfl) rfl #[.int .i64 sec] (by rfl) rfl rfl (by (try simp only [List.map_toArray, List.map_cons, List.map_nil]); first | done | rfl) ?_
     refine (outlawref25_two.calls sec T1 _ HT1.out).mono ?_
     rintro e v4 ⟨rfl, hb⟩
     refine ⟨_, rfl, ?_⟩
     have hS2 := s0_below hHeld hb
     have hC2 := (hb.cell (World.block_lt_of_cell? _ _ hC)).trans hC
     clear hC
     have hC := hC2
     clear hC2
     refine hK.out _ _ hS2 (fun hHeld2 => ?_)
     clear hK K hHeld hS2 hb
     have hHeld := hHeld2
     clear hHeld2
     refine norm_ (a' := ?_) ?_ ?_
     rotate_left
     ·show Act.put _ (some 31) _ = _
      simp only [Act.put, List.setIfInBounds_toArray, List.set_cons_zero, List.set_cons_succ, i64_w, i32_w]
      rfl
     refine two_ (i := 5) (j := 16) (Ni := some 25) (Nj := some 36) (mb_ 20 61183) (mb_ 20 126687) rfl rfl rfl rfl (by as_aux_lemma => kernel_rfl) (by decide) (by decide) (fun K hK => ?_) (fun K hK => ?_)
     ·skip
      refine value_ (w1 := v4) (by rfl) rfl (exec_379 (s := P1) rfl rfl (by rw [← HP1.out]; exact byte_reads hC)) ?_
      refine hK.out _ _ hHeld (fun hHeld2 => ?_)
      clear hK K hHeld2
      refine norm_ (a' := ?_) ?_ ?_
      rotate_left
      ·show Act.put _ (some 25) _ = _
       simp only [Act.put, List.setIfInBounds_toArray, List.set_cons_zero, List.set_cons_succ, i64_w, i32_w]
       rfl
      refine pq_ 8 28 (mb_ 20 61439) rfl ?_
      refine pq_ 12 32 (mb_ 20 65535) rfl ?_
      refine one_ (i := 16) (N := some 36) (mb_ 20 131071) rfl rfl (by as_aux_lemma => kernel_rfl) (by decide) (fun K hK => ?_)
      refine goes_ Try.func38 (by as_aux_lemma => kernel_rfl) rfl #[.int .i64 (l.length : Int)] (by rfl) rfl rfl (by (try simp only [List.map_toArray, List.map_cons, List.map_nil]); first | done | rfl) ?_
      refine (outlawref25_two.calls (l.length : Int) T2 _ HT2.out).mono ?_
      rintro e v5 ⟨rfl, hb⟩
      refine ⟨_, rfl, ?_⟩
      have hS2 := s0_below hHeld hb
      have hC2 := (hb.cell (World.block_lt_of_cell? _ _ hC)).trans hC
      clear hC
      have hC := hC2
      clear hC2
      refine hK.out _ _ hS2 (fun hHeld2 => ?_)
      clear hK K hHeld hS2 hb
      have hHeld := hHeld2
      clear hHeld2
      refine norm_ (a' := ?_) ?_ ?_
      rotate_left
      ·show Act.put _ (some 36) _ = _
       simp only [Act.put, List.setIfInBounds_toArray, List.set_cons_zero, List.set_cons_succ, i64_w, i32_w]
       rfl
      refine pq_ 17 37 (mb_ 20 262143) rfl ?_
      exact norm_ (by simp only [putAll, Act.put, List.setIfInBounds_toArray, List.set_cons_zero, List.set_cons_succ]) (hCont (.slice (some ⟨g, 0, none⟩) 1 1) _ hHeld)
     ·skip
      refine goes_ Try.func38 (by as_aux_lemma => kernel_rfl) rfl #[.int .i64 (l.length : Int)] (by rfl) rfl rfl (by (try simp only [List.map_toArray, List.map_cons, List.map_nil]); first | done | rfl) ?_
      refine (outlawref25_two.calls (l.length : Int) T2 _ HT2.out).mono ?_
      rintro e v6 ⟨rfl, hb⟩
      refine ⟨_, rfl, ?_⟩
      have hS2 := s0_below hHeld hb
      have hC2 := (hb.cell (World.block_lt_of_cell? _ _ hC)).trans hC
      clear hC
      have hC := hC2
      clear hC2
      refine hK.out _ _ hS2 (fun hHeld2 => ?_)
      clear hK K hHeld hS2 hb
      have hHeld := hHeld2
      clear hHeld2
      refine norm_ (a' := ?_) ?_ ?_
      rotate_left
      ·show Act.put _ (some 36) _ = _
       simp only [Act.put, List.setIfInBounds_toArray, List.set_cons_zero, List.set_cons_succ, i64_w, i32_w]
       rfl
      refine one_ (i := 5) (N := some 25) (mb_ 20 126719) rfl rfl (by as_aux_lemma => kernel_rfl) (by decide) (fun K hK => ?_)
      refine value_ (w1 := v6) (by rfl) rfl (exec_379 (s := P1) rfl rfl (by rw [← HP1.out]; exact byte_reads hC)) ?_
      refine hK.out _ _ hHeld (fun hHeld2 => ?_)
      clear hK K hHeld2
      refine norm_ (a' := ?_) ?_ ?_
      rotate_left
      ·show Act.put _ (some 25) _ = _
       simp only [Act.put, List.setIfInBounds_toArray, List.set_cons_zero, List.set_cons_succ, i64_w, i32_w]
       rfl
      refine pq_ 8 28 (mb_ 20 126975) rfl ?_
      refine pq_ 12 32 (mb_ 20 131071) rfl ?_
      refine pq_ 17 37 (mb_ 20 262143) rfl ?_
      exact norm_ (by simp only [putAll, Act.put, List.setIfInBounds_toArray, List.set_cons_zero, List.set_cons_succ]) (hCont (.slice (some ⟨g, 0, none⟩) 1 1) _ hHeld)
   ·skip
    refine goes_ Try.func38 (by as_aux_lemma => kernel_rfl) rfl #[.int .i64 sec] (by rfl) rfl rfl (by (try simp only [List.map_toArray, List.map_cons, List.map_nil]); first | done | rfl) ?_
    refine (outlawref25_two.calls sec T1 _ HT1.out).mono ?_
    rintro e v7 ⟨rfl, hb⟩
    refine ⟨_, rfl, ?_⟩
    have hS2 := s0_below hHeld hb
    refine hK.out _ _ hS2 (fun hHeld2 => ?_)
    clear hK K hHeld hS2 hb
    have hHeld := hHeld2
    clear hHeld2
    refine norm_ (a' := ?_) ?_ ?_
    rotate_left
    ·show Act.put _ (some 31) _ = _
     simp only [Act.put, List.setIfInBounds_toArray, List.set_cons_zero, List.set_cons_succ, i64_w, i32_w]
     rfl
    refine two_ (i := 4) (j := 16) (Ni := some 24) (Nj := some 36) (mb_ 20 61151) (mb_ 20 126671) rfl rfl rfl rfl (by as_aux_lemma => kernel_rfl) (by decide) (by decide) (fun K hK => ?_) (fun K hK => ?_)
    ·skip
     refine value_ (w1 := v7.alloc (.cells #[.int .u8 (bot.size : Int)] 5)) (v := .slice (some ⟨v7.heap.size, 0, none⟩) 1 1) (by rfl) rfl ?_ ?_
     ·go_simp
     have hS2 := s0_alloc hHeld (.cells #[.int .u8 (bot.size : Int)] 5)
     have hC : (v7.alloc (.cells #[.int .u8 (bot.size : Int)] 5)).cell? ⟨v7.heap.size, 0, none⟩ = some (.int .u8 (bot.size : Int)) := (Blk.new v7 #[.int .u8 (bot.size : Int)] 5).cell 0
     refine hK.out _ _ hS2 (fun hHeld2 => ?_)
     clear hK K hHeld hS2
     have hHeld := hHeld2
     clear hHeld2
     generalize v7.alloc (.cells #[.int .u8 (bot.size : Int)] 5) = v8 at hC hHeld ⊢
     generalize v7.heap.size = g at hC ⊢
     refine norm_ (a' := ?_) ?_ ?_
     rotate_left
     ·show Act.put _ (some 24) _ = _
      simp only [Act.put, List.setIfInBounds_toArray, List.set_cons_zero, List.set_cons_succ, i64_w, i32_w]
      rfl
     refine two_ (i := 5) (j := 16) (Ni := some 25) (Nj := some 36) (mb_ 20 61183) (mb_ 20 126687) rfl rfl rfl rfl (by as_aux_lemma => kernel_rfl) (by decide) (by decide) (fun K hK => ?_) (fun K hK => ?_)
     ·skip
      refine value_ (w1 := v8) (by rfl) rfl (exec_379 (s := P1) rfl rfl (by rw [← HP1.out]; exact byte_reads hC)) ?_
      refine hK.out _ _ hHeld (fun hHeld2 => ?_)
      clear hK K hHeld2
      refine norm_ (a' := ?_) ?_ ?_
      rotate_left
      ·show Act.put _ (some 25) _ = _
       simp only [Act.put, List.setIfInBounds_toArray, List.set_cons_zero, List.set_cons_succ, i64_w, i32_w]
       rfl
      refine pq_ 8 28 (mb_ 20 61439) rfl ?_
      refine pq_ 12 32 (mb_ 20 65535) rfl ?_
      refine one_ (i := 16) (N := some 36) (mb_ 20 131071) rfl rfl (by as_aux_lemma => kernel_rfl) (by decide) (fun K hK => ?_)
      refine goes_ Try.func38 (by as_aux_lemma => kernel_rfl) rfl #[.int .i64 (l.length : Int)] (by rfl) rfl rfl (by (try simp only [List.map_toArray, List.map_cons, List.map_nil]); first | done | rfl) ?_
      refine (outlawref25_two.calls (l.length : Int) T2 _ HT2.out).mono ?_
      rintro e v9 ⟨rfl, hb⟩
      refine ⟨_, rfl, ?_⟩
      have hS2 := s0_below hHeld hb
      have hC2 := (hb.cell (World.block_lt_of_cell? _ _ hC)).trans hC
      clear hC
      have hC := hC2
      clear hC2
      refine hK.out _ _ hS2 (fun hHeld2 => ?_)
      clear hK K hHeld hS2 hb
      have hHeld := hHeld2
      clear hHeld2
      refine norm_ (a' := ?_) ?_ ?_
      rotate_left
      ·show Act.put _ (some 36) _ = _
       simp only [Act.put, List.setIfInBounds_toArray, List.set_cons_zero, List.set_cons_succ, i64_w, i32_w]
       rfl
      refine pq_ 17 37 (mb_ 20 262143) rfl ?_
      exact norm_ (by simp only [putAll, Act.put, List.setIfInBounds_toArray, List.set_cons_zero, List.set_cons_succ]) (hCont (.slice (some ⟨g, 0, none⟩) 1 1) _ hHeld)
     ·skip
      refine goes_ Try.func38 (by as_aux_lemma => kernel_rfl) rfl #[.int .i64 (l.length : Int)] (by rfl) rfl rfl (by (try simp only [List.map_toArray, List.map_cons, List.map_nil]); first | done | rfl) ?_
      refine (outlawref25_two.calls (l.length : Int) T2 _ HT2.out).mono ?_
      rintro e v10 ⟨rfl, hb⟩
      refine ⟨_, rfl, ?_⟩
      have hS2 := s0_below hHeld hb
      have hC2 := (hb.cell (World.block_lt_of_cell? _ _ hC)).trans hC
      clear hC
      have hC := hC2
      clear hC2
      refine hK.out _ _ hS2 (fun hHeld2 => ?_)
      clear hK K hHeld hS2 hb
      have hHeld := hHeld2
      clear hHeld2
      refine norm_ (a' := ?_) ?_ ?_
      rotate_left
      ·show Act.put _ (some 36) _ = _
       simp only [Act.put, List.setIfInBounds_toArray, List.set_cons_zero, List.set_cons_succ, i64_w, i32_w]
       rfl
      refine one_ (i := 5) (N := some 25) (mb_ 20 126719) rfl rfl (by as_aux_lemma => kernel_rfl) (by decide) (fun K hK => ?_)
      refine value_ (w1 := v10) (by rfl) rfl (exec_379 (s := P1) rfl rfl (by rw [← HP1.out]; exact byte_reads hC)) ?_
      refine hK.out _ _ hHeld (fun hHeld2 => ?_)
      clear hK K hHeld2
      refine norm_ (a' := ?_) ?_ ?_
      rotate_left
      ·show Act.put _ (some 25) _ = _
       simp only [Act.put, List.setIfInBounds_toArray, List.set_cons_zero, List.set_cons_succ, i64_w, i32_w]
       rfl
      refine pq_ 8 28 (mb_ 20 126975) rfl ?_
      refine pq_ 12 32 (mb_ 20 131071) rfl ?_
      refine pq_ 17 37 (mb_ 20 262143) rfl ?_
      exact norm_ (by simp only [putAll, Act.put, List.setIfInBounds_toArray, List.set_cons_zero, List.set_cons_succ]) (hCont (.slice (some ⟨g, 0, none⟩) 1 1) _ hHeld)
    ·skip
     refine goes_ Try.func38 (by as_aux_lemma => kernel_rfl) rfl #[.int .i64 (l.length : Int)] (by rfl) rfl rfl (by (try simp only [List.map_toArray, List.map_cons, List.map_nil]); first | done | rfl) ?_
     refine (outlawref25_two.calls (l.length : Int) T2 _ HT2.out).mono ?_
     rintro e v11 ⟨rfl, hb⟩
     refine ⟨_, rfl, ?_⟩
     have hS2 := s0_below hHeld hb
     refine hK.out _ _ hS2 (fun hHeld2 => ?_)
     clear hK K hHeld hS2 hb
     have hHeld := hHeld2
     clear hHeld2
     refine norm_ (a' := ?_) ?_ ?_
     rotate_left
     ·show Act.put _ (some 36) _ = _
      simp only [Act.put, List.setIfInBounds_toArray, List.set_cons_zero, List.set_cons_succ, i64_w, i32_w]
      rfl
     refine one_ (i := 4) (N := some 24) (mb_ 20 126687) rfl rfl (by as_aux_lemma => kernel_rfl) (by decide) (fun K hK => ?_)
     refine value_ (w1 := v11.alloc (.cells #[.int .u8 (bot.size : Int)] 5)) (v := .slice (some ⟨v11.heap.size, 0, none⟩) 1 1) (by rfl) rfl ?_ ?_
     ·go_simp
     have hS2 := s0_alloc hHeld (.cells #[.int .u8 (bot.size : Int)] 5)
     have hC : (v11.alloc (.cells #[.int .u8 (bot.size : Int)] 5)).cell? ⟨v11.heap.size, 0, none⟩ = some (.int .u8 (bot.size : Int)) := (Blk.new v11 #[.int .u8 (bot.size : Int)] 5).cell 0
     refine hK.out _ _ hS2 (fun hHeld2 => ?_)
     clear hK K hHeld hS2
     have hHeld := hHeld2
     clear hHeld2
     generalize v11.alloc (.cells #[.int .u8 (bot.size : Int)] 5) = v12 at hC hHeld ⊢
     generalize v11.heap.size = g at hC ⊢
     refine norm_ (a' := ?_) ?_ ?_
     rotate_left
     ·show Act.put _ (some 24) _ = _
      simp only [Act.put, List.setIfInBounds_toArray, List.set_cons_zero, List.set_cons_succ, i64_w, i32_w]
      rfl
     refine one_ (i := 5) (N := some 25) (mb_ 20 126719) rfl rfl (by as_aux_lemma => kernel_rfl) (by decide) (fun K hK => ?_)
     refine value_ (w1 := v12) (by rfl) rfl (exec_379 (s := P1) rfl rfl (by rw [← HP1.out]; exact byte_reads hC)) ?_
     refine hK.out _ _ hHeld (fun hHeld2 => ?_)
     clear hK K hHeld2
     refine norm_ (a' := ?_) ?_ ?_
     rotate_left
     ·show Act.put _ (some 25) _ = _
      simp only [Act.put, List.setIfInBounds_toArray, List.set_cons_zero, List.set_cons_succ, i64_w, i32_w]
      rfl
     refine pq_ 8 28 (mb_ 20 126975) rfl ?_
     refine pq_ 12 32 (mb_ 20 131071) rfl ?_
     refine pq_ 17 37 (mb_ 20 262143) rfl ?_
     exact norm_ (by simp only [putAll, Act.put, List.setIfInBounds_toArray, List.set_cons_zero, List.set_cons_succ]) (hCont (.slice (some ⟨g, 0, none⟩) 1 1) _ hHeld)
  intro s_ v9 hHeld
  refine norm_ (a' := ?_) ?_ ?_
  rotate_left
  ·simp only [putAll, Act.put, List.setIfInBounds_toArray, List.set_cons_zero, List.set_cons_succ]
   rfl
  obtain ⟨vb, vB, hcv, hMv, hbv, hov⟩ := rowM_of v9 (P1 ++ bot ++ T1 ++ T2) w.heap.size hHeld.2.size (by rw [hz6]; omega)
  refine one_ (i := 18) (N := some 38) (mb_ 20 524287) rfl rfl (by as_aux_lemma => kernel_rfl) (by decide) (fun K hK => ?_)
  refine value_ (w1 := vB) (v := vb) (by rfl) rfl (exec_937 rfl rfl hcv) ?_
  refine hK.out _ _ (s0_below hHeld hbv) (fun hHeld2 => ?_)
  clear hK K hHeld hcv hbv hov
  refine norm_ (a' := ?_) ?_ ?_
  rotate_left
  ·show Act.put _ (some 38) _ = _
   simp only [Act.put, List.setIfInBounds_toArray, List.set_cons_zero, List.set_cons_succ, i64_w, i32_w]
   rfl
  refine pq_ 19 6 (mb_ 20 1048575) rfl ?_
  refine done_ (by as_aux_lemma => kernel_rfl) ?_
  have HX := Lib.hid hHeld2.1
  have HB := Lib.hid hHeld2.2
  have HM := Lib.hid (show RowM vB w.heap.size vb (headL bot sec l.length ++ stepsL (l.take 0)) by
   have e : bytesOf (P1 ++ bot ++ T1 ++ T2) = headL bot sec l.length ++ stepsL (l.take 0) := by
    rw [bytesOf_append_, bytesOf_append_, bytesOf_append_, HV.out.1, HV.out.2, ← HP1.out, bytesOf_str (isB_two _), bytesOf_str (isB_two _), bytesOf_str (fun y hy => by obtain rfl := List.mem_singleton.1 hy; exact ⟨by omega, by omega⟩)]
    unfold headL
    rw [show ((bot.size : Int) % 256) = (bot.size : Int) by omega]
    simp [stepsL]
   rw [← e]; exact hMv)
  clear hHeld2 hMv hz1 hz2 hz3 hz4 hz5 hz6 hq1 hq2 hq3 HV HP1 HT1 HT2 hbu
  have HL := Lib.hid (And.intro HZ.out.2.2.2.2.1 (And.intro HZ.out.2.2.2.2.2 hbs))
  clear hbs
  go_wp2_with fail
  go_loopw [6, 7] (fun v i wr => ∃ q : Nat, q ≤ l.length ∧ i = .int .i64 q ∧ Hid (RowM wr w.heap.size v (headL bot sec l.length ++ stepsL (l.take q)) ∧ Blk wr w.heap.size #[.string bot, .int .i64 sec, .slice A l.length c] 24 ∧ Below w.heap.size w wr)) (fun _ i _ => l.length - (intOf i).toNat)
  case atStart => exact ⟨0, Nat.zero_le _, rfl, Lib.hid ⟨HM.out, HX.out, HB.out⟩⟩
  case round =>
   clear HM HX HB
   obtain ⟨q, hq, rfl, HR⟩ := hrel
   have HM := Lib.hid HR.out.1
   have HX := Lib.hid HR.out.2.1
   have HB := Lib.hid HR.out.2.2
   clear HR
   have x2 : wr.cell? ⟨w.heap.size, 2, none⟩ = some (.slice A l.length c) := HX.out.cell 2
   by_cases hlt : q < l.length
   ·obtain ⟨ad, A6, c6, hA, e0, e1, e2, e3, e4, e5, e6, hc6, hC6⟩ := at_T45 HP.out.1 (q : Int) (by omega) (by omega)
    subst hA
    have HW := Lib.hid (And.intro (HL.out.2.1 (rd_T45 l q) (by unfold rd_T45; simp [List.getD_eq_getElem?_getD, List.getElem?_eq_getElem hlt])) (And.intro (steps_take hlt) (show (headL bot sec l.length ++ stepsL (l.take q)).length ≤ 2000000 by
     have h1 := steps_len (l := l.take q) (fun y hy => HL.out.2.1 y (List.mem_of_mem_take hy))
     have h2 := List.length_take_le q l
     rw [List.length_append, head_len]
     have := HL.out.1
     have := HL.out.2.2
     rw [List.length_take] at h1
     omega)))
    obtain ⟨x, hx⟩ : ∃ x, rd_T45 l (q : Int) = x := ⟨_, rfl⟩
    rw [hx] at e0 e1 e2 e3 e4 e5 e6 hc6 hC6 HW
    simp only [Int.toNat_natCast] at e0 e1 e2 e3 e4 e5 e6
    replace e0 := (HB.out.cell (World.block_lt_of_cell? w _ e0)).trans e0
    replace e1 := (HB.out.cell (World.block_lt_of_cell? w _ e1)).trans e1
    replace e2 := (HB.out.cell (World.block_lt_of_cell? w _ e2)).trans e2
    replace e3 := (HB.out.cell (World.block_lt_of_cell? w _ e3)).trans e3
    replace e4 := (HB.out.cell (World.block_lt_of_cell? w _ e4)).trans e4
    replace e5 := (HB.out.cell (World.block_lt_of_cell? w _ e5)).trans e5
    replace e6 := (HB.out.cell (World.block_lt_of_cell? w _ e6)).trans e6
    obtain ⟨XS, hXS⟩ : ∃ z, headL bot sec l.length ++ stepsL (l.take q) = z := ⟨_, rfl⟩
    have HT := Lib.hid (show headL bot sec l.length ++ stepsL (l.take (q + 1)) = XS ++ stepL x by rw [HW.out.2.1, ← List.append_assoc, hXS])
    rw [hXS] at HM HW
    have HC := Lib.hid (And.intro hC6 hc6)
    have HY := Lib.hid (wrong_zero HW.out.1)
    have HZl := Lib.hid (And.intro (rec_len HW.out.1) HW.out.2.2)
    clear hx hXS hC6 hc6 HW
    go_wp2_with fail
    have HI := Lib.hid (Blk.new wr #[.bool x.f0, .int .i64 x.f1.f0, .int .i64 x.f1.f1, .int .i64 x.f1.f2, .bool x.f1.f3, .string x.f1.f4, .slice A6 x.f2.length c6] 45)
    replace HM := Lib.hid (RowM.below HM.out (below_alloc (Below.refl _ wr) (.cells #[.bool x.f0, .int .i64 x.f1.f0, .int .i64 x.f1.f1, .int .i64 x.f1.f2, .bool x.f1.f3, .string x.f1.f4, .slice A6 x.f2.length c6] 45)))
    replace HX := Lib.hid (HX.out.alloc (.cells #[.bool x.f0, .int .i64 x.f1.f0, .int .i64 x.f1.f1, .int .i64 x.f1.f2, .bool x.f1.f3, .string x.f1.f4, .slice A6 x.f2.length c6] 45))
    replace HB := Lib.hid (below_alloc HB.out (.cells #[.bool x.f0, .int .i64 x.f1.f0, .int .i64 x.f1.f1, .int .i64 x.f1.f2, .bool x.f1.f3, .string x.f1.f4, .slice A6 x.f2.length c6] 45))
    generalize wr.alloc (.cells #[.bool x.f0, .int .i64 x.f1.f0, .int .i64 x.f1.f1, .int .i64 x.f1.f2, .bool x.f1.f3, .string x.f1.f4, .slice A6 x.f2.length c6] 45) = w4 at HI HM HX HB ⊢
    obtain ⟨I, hI⟩ : ∃ I, wr.heap.size = I := ⟨_, rfl⟩
    rw [hI] at HI
    rw [hI]
    clear hI x2 e0 e1 e2 e3 e4 e5 e6
    obtain ⟨rec, Hrec⟩ : ∃ z, Hid (strOfNums (recS x.f1) = z) := ⟨_, Lib.hid rfl⟩
    refine (outlawref21_Bytes.calls 9 x.f1.f0 x.f1.f1 x.f1.f2 x.f1.f3 x.f1.f4 rec 0 _ ((refrec_val 0 x.f1 HY.out.1).trans (by rw [Hrec.out]))).mono ?_
    rintro e w5 ⟨rfl, hb⟩
    replace HI := Lib.hid (HI.out.below hb HI.out.lt)
    replace HM := Lib.hid (RowM.below HM.out hb)
    replace HX := Lib.hid (HX.out.below hb HX.out.lt)
    replace HB := Lib.hid (HB.out.trans (hb.mono HB.out.size))
    clear hb
    obtain ⟨T3, HT3⟩ : ∃ z, Hid (outlawref25_two.f (rec.size : Int) = some z) := ⟨_, Lib.hid rfl⟩
    have HV3 := Lib.hid (show T3 = strOfNums (twoL (rec.size : Int)) from (Option.some.inj HT3.out).symm)
    have hy0 : rec.size ≤ 5000 := by rw [← Hrec.out, str_size]; exact HZl.out.1
    have hy1 : T3.size = 2 := by rw [HV3.out, str_size]; rfl
    have i0 : w5.cell? ⟨I, 0, none⟩ = some (.bool x.f0) := HI.out.cell 0
    have i6 : w5.cell? ⟨I, 6, none⟩ = some (.slice A6 x.f2.length c6) := HI.out.cell 6
    cases hcr : x.f0 with
    | false =>
     rw [hcr] at i0
     have HD := Lib.hid hcr
     have hy2 : ((⟨#[0]⟩ : ByteArray) ++ T3).size = 1 + 2 := by rw [ByteArray.size_append, hy1]; rfl
     have hy3 : ((⟨#[0]⟩ : ByteArray) ++ T3 ++ rec).size = 1 + 2 + rec.size := by rw [ByteArray.size_append, hy2]
     have hy4 : (9223372036854775807 < 1 + 2) = False := eq_false (by decide)
     have hy5 : (9223372036854775807 < 1 + 2 + rec.size) = False := eq_false (by omega)
     have hy6 : (9223372036854775807 < 3 + rec.size) = False := eq_false (by omega)
     clear hcr
     have hrz := trivial
     go_wp2_with fail
     refine (outlawref25_two.calls (rec.size : Int) T3 _ HT3.out).mono ?_
     rintro e w6 ⟨rfl, hb⟩
     replace HM := Lib.hid (RowM.below HM.out hb)
     replace HX := Lib.hid (HX.out.below hb HX.out.lt)
     replace HB := Lib.hid (HB.out.trans (hb.mono HB.out.size))
     clear hb
     go_wp2_with ((with_reducible refine gate_dst (N := 67) rfl ?_); refine wpList_rowM rfl (.tmp 60) (.tmp 66) rfl w.heap.size _ XS _ rfl rfl HM.out HB.out.size (by have := HZl.out.2; rw [hy3]; omega) ?_; intro v1 w7 hM hg hat; have HX2 := Lib.hid (blk_rowM HX.out HM.out hg (by decide)); have HB2 := Lib.hid (below_rowM HB.out (Nat.le_refl _) HM.out hg); have HM2 := Lib.hid hM; clear hM hg hat HM HX HB)
     have hw1 : wrap64 ((q : Int) + 1) = ((q + 1 : Nat) : Int) := by have := HL.out.1; unfold wrap64; omega
     rw [hw1]
     refine ⟨⟨q + 1, by omega, rfl, Lib.hid ⟨?_, HX2.out, HB2.out⟩⟩, ?_⟩
     ·rw [HT.out]
      have e : bytesOf ((⟨#[0]⟩ : ByteArray) ++ T3 ++ rec) = stepL x := by
       rw [bytesOf_append_, bytesOf_append_, HV3.out, bytesOf_str (isB_two _), ← Hrec.out, show bytesOf (strOfNums (recS x.f1)) = recS x.f1 from bytesOf_str (isB_recL HY.out.1)]
       unfold stepL
       rw [HD.out, show (strOfNums (recS x.f1)).size = (recS x.f1).length from str_size _]
       simp [bytesOf]
      rw [← e]; exact HM2.out
     ·show l.length - (((q + 1 : Nat) : Int)).toNat < l.length - ((q : Int)).toNat
      omega
    | true =>
     rw [hcr] at i0
     have HD := Lib.hid hcr
     clear hcr
     rw [show (Value.bool x.f0) = .bool true by rw [HD.out]] at HI
     go_wp2_with fail
     refine start_ (n := 16) (S := fun w' => Blk w' I #[.bool true, .int .i64 x.f1.f0, .int .i64 x.f1.f1, .int .i64 x.f1.f2, .bool x.f1.f3, .string x.f1.f4, .slice A6 x.f2.length c6] 45 ∧ Blk w' w.heap.size #[.string bot, .int .i64 sec, .slice (some ad) l.length c] 24 ∧ Below w.heap.size w w') (ds := []) #[false, false, false, false, false, false, false, false, false, false, false, false, false, false, false, false] (by as_aux_lemma => kernel_rfl) rfl rfl (⟨HI.out.drew, HX.out.drew, HB.out.drew⟩) (fun hHeld => ?_)
     have HMd := Lib.hid (RowM.below HM.out (below_drew1 (Below.refl w5.heap.size w5)))
     clear i0 i6 HI HX HB HM
     have HM := HMd
     clear HMd
     generalize w5.drew = v0 at hHeld HM ⊢
     refine pq_ 0 68 (mb_ 16 1) rfl ?_
     refine pq_ 1 69 (mb_ 16 3) rfl ?_
     refine pq_ 2 70 (mb_ 16 7) rfl ?_
     refine pq_ 5 73 (mb_ 16 39) rfl ?_
     refine pq_ 7 75 (mb_ 16 167) rfl ?_
     refine take_ (i := 8) (N := some 76) (v := ?_) (a' := ?_) #[true, true, true, false, false, true, false, true, true, false, false, false, false, false, false, false] rfl rfl (by as_aux_lemma => kernel_rfl) (fun _ _ _ h => h) (Or.inl ⟨by rfl, ?_⟩) hHeld ?_ ?_
     rotate_left
     ·rintro w' ⟨sI, sX, sB⟩
      have q2 : w'.cell? ⟨I, 6, none⟩ = some (.slice A6 x.f2.length c6) := sI.cell 6
      go_simp
      with_reducible rfl
     rotate_left
     ·simp only [Act.put, List.setIfInBounds_toArray, List.set_cons_zero, List.set_cons_succ, i64_w, i32_w]
      rfl
     refine pq_ 9 77 (mb_ 16 935) rfl ?_
     refine pq_ 10 78 (mb_ 16 1959) rfl ?_
     have hcu := u8_w x.f2.length (Nat.le_trans HY.out.2.2.1 (by decide))
     rw [hcu]
     obtain ⟨P2, HP2⟩ : ∃ z, Hid (strOfNums [(x.f2.length : Int)] = z) := ⟨_, Lib.hid rfl⟩
     have hp1 : P2.size = 1 := by rw [← HP2.out, str_size]; rfl
     have hy2 : ((⟨#[1]⟩ : ByteArray) ++ T3).size = 1 + 2 := by rw [ByteArray.size_append, hy1]; rfl
     have hy3 : ((⟨#[1]⟩ : ByteArray) ++ T3 ++ rec).size = 1 + 2 + rec.size := by rw [ByteArray.size_append, hy2]
     have hy7 : ((⟨#[1]⟩ : ByteArray) ++ T3 ++ rec ++ P2).size = 1 + 2 + rec.size + 1 := by rw [ByteArray.size_append, hy3, hp1]
     have hy4 : (9223372036854775807 < 1 + 2) = False := eq_false (by decide)
     have hy5 : (9223372036854775807 < 1 + 2 + rec.size) = False := eq_false (by omega)
     have hy6 : (9223372036854775807 < 3 + rec.size) = False := eq_false (by omega)
     have hy8 : (9223372036854775807 < 1 + 2 + rec.size + 1) = False := eq_false (by omega)
     have hy9 : (9223372036854775807 < 3 + rec.size + 1) = False := eq_false (by omega)
     refine join_ (σ := Value) 2 (mb_ 16 16383) (fun s_ => [(71, .string T3), (72, .string ((⟨#[1]⟩ : ByteArray) ++ T3)), (74, .string ((⟨#[1]⟩ : ByteArray) ++ T3 ++ rec)), (79, s_), (80, .string P2), (81, .string ((⟨#[1]⟩ : ByteArray) ++ T3 ++ rec ++ P2))]) (fun _ w' => (Blk w' I #[.bool true, .int .i64 x.f1.f0, .int .i64 x.f1.f1, .int .i64 x.f1.f2, .bool x.f1.f3, .string x.f1.f4, .slice A6 x.f2.length c6] 45 ∧ Blk w' w.heap.size #[.string bot, .int .i64 sec, .slice (some ad) l.length c] 24 ∧ Below w.heap.size w w') ∧ Hid (RowM w' w.heap.size u6 XS)) ?_ ?_
     rotate_left
     ·intro hCont
      refine two_ (i := 3) (j := 11) (Ni := some 71) (Nj := some 79) (mb_ 16 1967) (mb_ 16 4007) rfl rfl rfl rfl (by as_aux_lemma => kernel_rfl) (by decide) (by decide) (fun K hK => ?_) (fun K hK => ?_)
      ·skip
       refine goes_ Try.func38 (by as_aux_lemma => kernel_rfl) rfl #[.int .i64 (rec.size : Int)] (by rfl) rfl rfl (by (try simp only [List.map_toArray, List.map_cons, List.map_nil]); first | done | rfl) ?_
       refine (outlawref25_two.calls (rec.size : Int) T3 _ HT3.out).mono ?_
       rintro e v13 ⟨rfl, hb⟩
       refine ⟨_, rfl, ?_⟩
       have hS2 := s12_below hHeld hb
       replace HM := Lib.hid (RowM.below HM.out hb)
       refine hK.out _ _ hS2 (fun hHeld2 => ?_)
       clear hK K hHeld hS2 hb
       have hHeld := hHeld2
       clear hHeld2
       refine norm_ (a' := ?_) ?_ ?_
       rotate_left
       ·show Act.put _ (some 71) _ = _
        simp only [Act.put, List.setIfInBounds_toArray, List.set_cons_zero, List.set_cons_succ, i64_w, i32_w]
        rfl
       refine pq_ 4 72 (mb_ 16 1983) rfl ?_
       refine pq_ 6 74 (mb_ 16 2047) rfl ?_
       refine one_ (i := 11) (N := some 79) (mb_ 16 4095) rfl rfl (by as_aux_lemma => kernel_rfl) (by decide) (fun K hK => ?_)
       refine value_ (w1 := v13.alloc (.cells #[.int .u8 (x.f2.length : Int)] 5)) (v := .slice (some ⟨v13.heap.size, 0, none⟩) 1 1) (by rfl) rfl ?_ ?_
       ·go_simp
       have hS2 := s12_alloc hHeld (.cells #[.int .u8 (x.f2.length : Int)] 5)
       have hC : (v13.alloc (.cells #[.int .u8 (x.f2.length : Int)] 5)).cell? ⟨v13.heap.size, 0, none⟩ = some (.int .u8 (x.f2.length : Int)) := (Blk.new v13 #[.int .u8 (x.f2.length : Int)] 5).cell 0
       replace HM := Lib.hid (RowM.below HM.out (below_alloc (Below.refl _ v13) (.cells #[.int .u8 (x.f2.length : Int)] 5)))
       refine hK.out _ _ hS2 (fun hHeld2 => ?_)
       clear hK K hHeld hS2
       have hHeld := hHeld2
       clear hHeld2
       generalize v13.alloc (.cells #[.int .u8 (x.f2.length : Int)] 5) = v14 at hC hHeld HM ⊢
       generalize v13.heap.size = g at hC ⊢
       refine norm_ (a' := ?_) ?_ ?_
       rotate_left
       ·show Act.put _ (some 79) _ = _
        simp only [Act.put, List.setIfInBounds_toArray, List.set_cons_zero, List.set_cons_succ, i64_w, i32_w]
        rfl
       refine one_ (i := 12) (N := some 80) (mb_ 16 8191) rfl rfl (by as_aux_lemma => kernel_rfl) (by decide) (fun K hK => ?_)
       refine value_ (w1 := v14) (by rfl) rfl (exec_379 (s := P2) rfl rfl (by rw [← HP2.out]; exact byte_reads hC)) ?_
       refine hK.out _ _ hHeld (fun hHeld2 => ?_)
       clear hK K hHeld2
       refine norm_ (a' := ?_) ?_ ?_
       rotate_left
       ·show Act.put _ (some 80) _ = _
        simp only [Act.put, List.setIfInBounds_toArray, List.set_cons_zero, List.set_cons_succ, i64_w, i32_w]
        rfl
       refine pq_ 13 81 (mb_ 16 16383) rfl ?_
       exact norm_ (by simp only [putAll, Act.put, List.setIfInBounds_toArray, List.set_cons_zero, List.set_cons_succ]) (hCont (.slice (some ⟨g, 0, none⟩) 1 1) _ ⟨hHeld, HM⟩)
      ·skip
       refine value_ (w1 := v0.alloc (.cells #[.int .u8 (x.f2.length : Int)] 5)) (v := .slice (some ⟨v0.heap.size, 0, none⟩) 1 1) (by rfl) rfl ?_ ?_
       ·go_simp
       have hS2 := s12_alloc hHeld (.cells #[.int .u8 (x.f2.length : Int)] 5)
       have hC : (v0.alloc (.cells #[.int .u8 (x.f2.length : Int)] 5)).cell? ⟨v0.heap.size, 0, none⟩ = some (.int .u8 (x.f2.length : Int)) := (Blk.new v0 #[.int .u8 (x.f2.length : Int)] 5).cell 0
       replace HM := Lib.hid (RowM.below HM.out (below_alloc (Below.refl _ v0) (.cells #[.int .u8 (x.f2.length : Int)] 5)))
       refine hK.out _ _ hS2 (fun hHeld2 => ?_)
       clear hK K hHeld hS2
       have hHeld := hHeld2
       clear hHeld2
       generalize v0.alloc (.cells #[.int .u8 (x.f2.length : Int)] 5) = v15 at hC hHeld HM ⊢
       generalize v0.heap.size = g at hC ⊢
       refine norm_ (a' := ?_) ?_ ?_
       rotate_left
       ·show Act.put _ (some 79) _ = _
        simp only [Act.put, List.setIfInBounds_toArray, List.set_cons_zero, List.set_cons_succ, i64_w, i32_w]
        rfl
       refine two_ (i := 3) (j := 12) (Ni := some 71) (Nj := some 80) (mb_ 16 4015) (mb_ 16 8103) rfl rfl rfl rfl (by as_aux_lemma => kernel_rfl) (by decide) (by decide) (fun K hK => ?_) (fun K hK => ?_)
       ·skip
        refine goes_ Try.func38 (by as_aux_lemma => kernel_rfl) rfl #[.int .i64 (rec.size : Int)] (by rfl) rfl rfl (by (try simp only [List.map_toArray, List.map_cons, List.map_nil]); first | done | rfl) ?_
        refine (outlawref25_two.calls (rec.size : Int) T3 _ HT3.out).mono ?_
        rintro e v16 ⟨rfl, hb⟩
        refine ⟨_, rfl, ?_⟩
        have hS2 := s12_below hHeld hb
        have hC2 := (hb.cell (World.block_lt_of_cell? _ _ hC)).trans hC
        clear hC
        have hC := hC2
        clear hC2
        replace HM := Lib.hid (RowM.below HM.out hb)
        refine hK.out _ _ hS2 (fun hHeld2 => ?_)
        clear hK K hHeld hS2 hb
        have hHeld := hHeld2
        clear hHeld2
        refine norm_ (a' := ?_) ?_ ?_
        rotate_left
        ·show Act.put _ (some 71) _ = _
         simp only [Act.put, List.setIfInBounds_toArray, List.set_cons_zero, List.set_cons_succ, i64_w, i32_w]
         rfl
        refine pq_ 4 72 (mb_ 16 4031) rfl ?_
        refine pq_ 6 74 (mb_ 16 4095) rfl ?_
        refine one_ (i := 12) (N := some 80) (mb_ 16 8191) rfl rfl (by as_aux_lemma => kernel_rfl) (by decide) (fun K hK => ?_)
        refine value_ (w1 := v16) (by rfl) rfl (exec_379 (s := P2) rfl rfl (by rw [← HP2.out]; exact byte_reads hC)) ?_
        refine hK.out _ _ hHeld (fun hHeld2 => ?_)
        clear hK K hHeld2
        refine norm_ (a' := ?_) ?_ ?_
        rotate_left
        ·show Act.put _ (some 80) _ = _
         simp only [Act.put, List.setIfInBounds_toArray, List.set_cons_zero, List.set_cons_succ, i64_w, i32_w]
         rfl
        refine pq_ 13 81 (mb_ 16 16383) rfl ?_
        exact norm_ (by simp only [putAll, Act.put, List.setIfInBounds_toArray, List.set_cons_zero, List.set_cons_succ]) (hCont (.slice (some ⟨g, 0, none⟩) 1 1) _ ⟨hHeld, HM⟩)
       ·skip
        refine value_ (w1 := v15) (by rfl) rfl (exec_379 (s := P2) rfl rfl (by rw [← HP2.out]; exact byte_reads hC)) ?_
        refine hK.out _ _ hHeld (fun hHeld2 => ?_)
        clear hK K hHeld2
        refine norm_ (a' := ?_) ?_ ?_
        rotate_left
        ·show Act.put _ (some 80) _ = _
         simp only [Act.put, List.setIfInBounds_toArray, List.set_cons_zero, List.set_cons_succ, i64_w, i32_w]
         rfl
        refine one_ (i := 3) (N := some 71) (mb_ 16 8111) rfl rfl (by as_aux_lemma => kernel_rfl) (by decide) (fun K hK => ?_)
        refine goes_ Try.func38 (by as_aux_lemma => kernel_rfl) rfl #[.int .i64 (rec.size : Int)] (by rfl) rfl rfl (by (try simp only [List.map_toArray, List.map_cons, List.map_nil]); first | done | rfl) ?_
        refine (outlawref25_two.calls (rec.size : Int) T3 _ HT3.out).mono ?_
        rintro e v17 ⟨rfl, hb⟩
        refine ⟨_, rfl, ?_⟩
        have hS2 := s12_below hHeld hb
        have hC2 := (hb.cell (World.block_lt_of_cell? _ _ hC)).trans hC
        clear hC
        have hC := hC2
        clear hC2
        replace HM := Lib.hid (RowM.below HM.out hb)
        refine hK.out _ _ hS2 (fun hHeld2 => ?_)
        clear hK K hHeld hS2 hb
        have hHeld := hHeld2
        clear hHeld2
        refine norm_ (a' := ?_) ?_ ?_
        rotate_left
        ·show Act.put _ (some 71) _ = _
         simp only [Act.put, List.setIfInBounds_toArray, List.set_cons_zero, List.set_cons_succ, i64_w, i32_w]
         rfl
        refine pq_ 4 72 (mb_ 16 8127) rfl ?_
        refine pq_ 6 74 (mb_ 16 8191) rfl ?_
        refine pq_ 13 81 (mb_ 16 16383) rfl ?_
        exact norm_ (by simp only [putAll, Act.put, List.setIfInBounds_toArray, List.set_cons_zero, List.set_cons_succ]) (hCont (.slice (some ⟨g, 0, none⟩) 1 1) _ ⟨hHeld, HM⟩)
     intro s_ v9 hHeldM
     obtain ⟨hHeld, HM2⟩ := hHeldM
     clear HM
     have HM := HM2
     clear HM2
     refine norm_ (a' := ?_) ?_ ?_
     rotate_left
     ·simp only [putAll, Act.put, List.setIfInBounds_toArray, List.set_cons_zero, List.set_cons_succ]
      rfl
     obtain ⟨v1, w7, happ, hM7, hg, hat⟩ := rowM_append v9 w.heap.size u6 XS ((⟨#[1]⟩ : ByteArray) ++ T3 ++ rec ++ P2) 37 HM.out hHeld.2.2.size (by have := HZl.out.2; rw [hy7]; omega)
     have hS7 : Blk w7 I #[.bool true, .int .i64 x.f1.f0, .int .i64 x.f1.f1, .int .i64 x.f1.f2, .bool x.f1.f3, .string x.f1.f4, .slice A6 x.f2.length c6] 45 ∧ Blk w7 w.heap.size #[.string bot, .int .i64 sec, .slice (some ad) l.length c] 24 ∧ Below w.heap.size w w7 := ⟨blk_rowM hHeld.1 HM.out hg (by decide), blk_rowM hHeld.2.1 HM.out hg (by decide), below_rowM hHeld.2.2 (Nat.le_refl _) HM.out hg⟩
     refine one_ (i := 14) (N := some 82) (mb_ 16 32767) rfl rfl (by as_aux_lemma => kernel_rfl) (by decide) (fun K hK => ?_)
     refine value_ (w1 := w7) (v := v1) (by rfl) rfl (exec_app rfl rfl rfl happ) ?_
     refine hK.out _ _ hS7 (fun hHeld2 => ?_)
     clear hK K hHeld happ hg hat hS7
     refine norm_ (a' := ?_) ?_ ?_
     rotate_left
     ·show Act.put _ (some 82) _ = _
      simp only [Act.put, List.setIfInBounds_toArray, List.set_cons_zero, List.set_cons_succ, i64_w, i32_w]
      rfl
     refine pq_ 15 6 (mb_ 16 65535) rfl ?_
     refine done_ (by as_aux_lemma => kernel_rfl) ?_
     have HI := Lib.hid hHeld2.1
     have HX := Lib.hid hHeld2.2.1
     have HB := Lib.hid hHeld2.2.2
     obtain ⟨YS, HYS⟩ : ∃ z, Hid (XS ++ bytesOf ((⟨#[1]⟩ : ByteArray) ++ T3 ++ rec ++ P2) = z) := ⟨_, Lib.hid rfl⟩
     rw [HYS.out] at hM7
     replace HM := Lib.hid hM7
     have HYL := Lib.hid (show YS.length ≤ 2010000 by have := HZl.out.2; rw [← HYS.out, List.length_append, bytesOf_length, hy7]; omega)
     have HYE := Lib.hid (show YS ++ cutsL x.f2 = XS ++ stepL x by
      rw [← HYS.out, bytesOf_append_, bytesOf_append_, bytesOf_append_, HV3.out, bytesOf_str (isB_two _), ← Hrec.out, show bytesOf (strOfNums (recS x.f1)) = recS x.f1 from bytesOf_str (isB_recL HY.out.1), ← HP2.out, bytesOf_str (fun y hy => by obtain rfl := List.mem_singleton.1 hy; have := HY.out.2.2.1; exact ⟨by omega, by omega⟩)]
      unfold stepL
      rw [HD.out, show (strOfNums (recS x.f1)).size = (recS x.f1).length from str_size _, show ((x.f2.length : Int) % 256) = (x.f2.length : Int) by have := HY.out.2.2.1; omega]
      simp [bytesOf])
     clear hHeld2 hM7 hy0 hy1 hy2 hy3 hy4 hy5 hy6 hy7 hy8 hy9 hp1 HP2 HV3 Hrec HT3 HYS hcu
     go_wp2_with fail
     go_loopw [6, 11] (fun v2 i2 wr2 => ∃ p : Nat, p ≤ x.f2.length ∧ i2 = .int .i64 p ∧ Hid (RowM wr2 w.heap.size v2 (YS ++ cutsL (x.f2.take p)) ∧ Blk wr2 I #[.bool true, .int .i64 x.f1.f0, .int .i64 x.f1.f1, .int .i64 x.f1.f2, .bool x.f1.f3, .string x.f1.f4, .slice A6 x.f2.length c6] 45 ∧ Blk wr2 w.heap.size #[.string bot, .int .i64 sec, .slice (some ad) l.length c] 24 ∧ Below w.heap.size w wr2)) (fun _ i2 _ => x.f2.length - (intOf i2).toNat)
     case atStart => exact ⟨0, Nat.zero_le _, rfl, Lib.hid ⟨by rw [List.take_zero]; show RowM _ _ _ (YS ++ []); rw [List.append_nil]; exact HM.out, HI.out, HX.out, HB.out⟩⟩
     case round =>
      clear HM HI HX HB
      obtain ⟨p, hp, rfl, HR2⟩ := hrel
      have HM := Lib.hid HR2.out.1
      have HI := Lib.hid HR2.out.2.1
      have HX := Lib.hid HR2.out.2.2.1
      have HB := Lib.hid HR2.out.2.2.2
      clear HR2
      by_cases hpt : p < x.f2.length
      ·obtain ⟨a6, rfl, cx⟩ := at_int HC.out.1 p hpt
       replace cx := (HB.out.cell (World.block_lt_of_cell? w _ cx)).trans cx
       have i6 := HI.out.cell 6
       simp at i6
       have HQ := Lib.hid (And.intro (cuts_take hpt) (show (YS ++ cutsL (x.f2.take p)).length ≤ 2100000 by
        have := HYL.out
        have := HY.out.2.2.1
        rw [List.length_append, cuts_len, List.length_take]
        omega))
       obtain ⟨cv, hcv⟩ : ∃ z, x.f2.getD p 0 = z := ⟨_, rfl⟩
       rw [hcv] at cx HQ
       clear hcv
       obtain ⟨T4, HT4⟩ : ∃ z, Hid (outlawref25_two.f cv = some z) := ⟨_, Lib.hid rfl⟩
       have HV4 := Lib.hid (show T4 = strOfNums (twoL cv) from (Option.some.inj HT4.out).symm)
       go_wp2_with fail
       refine (outlawref25_two.calls cv T4 _ HT4.out).mono ?_
       rintro e w8 ⟨rfl, hb⟩
       clear cx i6
       replace HM := Lib.hid (RowM.below HM.out hb)
       replace HI := Lib.hid (HI.out.below hb HI.out.lt)
       replace HX := Lib.hid (HX.out.below hb HX.out.lt)
       replace HB := Lib.hid (HB.out.trans (hb.mono HB.out.size))
       clear hb
       go_wp2_with ((with_reducible refine gate_dst (N := 97) rfl ?_); refine wpList_rowM rfl (.tmp 90) (.tmp 96) rfl w.heap.size _ (YS ++ cutsL (x.f2.take p)) T4 rfl rfl HM.out HB.out.size (by have := HQ.out.2; rw [HV4.out, str_size]; show _ + 2 ≤ _; omega) ?_; intro v3 w9 hM hg hat; have HI2 := Lib.hid (blk_rowM HI.out HM.out hg (by decide)); have HX2 := Lib.hid (blk_rowM HX.out HM.out hg (by decide)); have HB2 := Lib.hid (below_rowM HB.out (Nat.le_refl _) HM.out hg); have HM2 := Lib.hid hM; clear hM hg hat HM HX HB HI)
       have hw2 : wrap64 ((p : Int) + 1) = ((p + 1 : Nat) : Int) := by have := HY.out.2.2.1; unfold wrap64; omega
       rw [hw2]
       refine ⟨⟨p + 1, by omega, rfl, Lib.hid ⟨?_, HI2.out, HX2.out, HB2.out⟩⟩, ?_⟩
       ·rw [HQ.out.1, ← List.append_assoc]
        have e : bytesOf T4 = twoL cv := by rw [HV4.out, bytesOf_str (isB_two _)]
        rw [← e]; exact HM2.out
       ·show x.f2.length - (((p + 1 : Nat) : Int)).toNat < x.f2.length - ((p : Int)).toNat
        omega
      ·obtain rfl : p = x.f2.length := by omega
       rw [List.take_length, HYE.out, ← HT.out] at HM
       have i6 := HI.out.cell 6
       simp at i6
       go_wp2_with fail
       have hw1 : wrap64 ((q : Int) + 1) = ((q + 1 : Nat) : Int) := by have := HL.out.1; unfold wrap64; omega
       rw [hw1]
       refine ⟨⟨q + 1, by omega, rfl, Lib.hid ⟨HM.out, HX.out, HB.out⟩⟩, ?_⟩
       show l.length - (((q + 1 : Nat) : Int)).toNat < l.length - ((q : Int)).toNat
       omega
   ·obtain rfl : q = l.length := by omega
    have HF := Lib.hid (show headL bot sec l.length ++ stepsL (l.take l.length) = scrL bot sec l by rw [List.take_length, scr_split])
    rw [HF.out] at HM
    obtain ⟨Ar, cr, rfl, hRd⟩ := rowM_reads HM.out (by
     have h1 := steps_len (l := l) HL.out.2.1
     rw [scr_split, List.length_append, head_len]
     have := HL.out.1
     have := HL.out.2.2
     omega)
    have HRd := Lib.hid (string_of_reads Try.underlying37 Try.underlying5 Try.underlying9 hRd (c := cr))
    clear hRd HF
    go_wp2_with ((with_reducible refine gate_dst (N := 99) rfl ?_); refine wpList_379 rfl (.tmp 98) rfl _ _ rfl HRd.out ?_)
    go_ret2
    exact ⟨rfl, HB.out⟩
 ·have hcb : (c2 != 0) = true := by simpa using h0
  have HR := Lib.hid (show r = (⟨#[]⟩, c2) by rw [← HP.out.2.2.2.2.2]; unfold bytesS; rw [HP.out.2.2.2.2.1]; exact if_neg h0)
  obtain rfl := HR.out
  clear h0
  go_wp2_with fail
  go_ret2
  exact ⟨rfl, HB.out⟩
def outlawref25_Bytes.f (bot : ByteArray) (sec : Int) (l : List S45) : Option (ByteArray × Int) := if fewCuts l ∧ bot.size ≤ 140737488351232 then some (bytesS bot sec l) else none
theorem outlawref25_Bytes.calls (a0_0 : ByteArray) (a0_1 : Int) (A0_2 : Option Addr) (c0_2 : Nat) (l0_2 : List S45) (r1 : ByteArray) (r2 : Int) (w : World) (hr0_2 : Kd.C k45 w A0_2 l0_2.length l0_2) (hc0_2 : l0_2.length ≤ c0_2) (h : outlawref25_Bytes.f a0_0 a0_1 l0_2 = some (r1, r2)) :
  Calls Try.prog 19 #[.agg #[.string a0_0, .int .i64 a0_1, .slice A0_2 l0_2.length c0_2]] w fun e w' => e = .returned (.tuple #[.string r1, .int .i64 r2]) ∧ Below w.heap.size w w' := by
 unfold outlawref25_Bytes.f at h
 by_cases hh : fewCuts l0_2 ∧ a0_0.size ≤ 140737488351232
 ·rw [if_pos hh] at h
  exact refbytes_any a0_0 a0_1 A0_2 c0_2 l0_2 w hr0_2 hc0_2 hh.1 hh.2 (r1, r2) (Option.some.inj h)
 ·rw [if_neg hh] at h
  simp at h
end Go.Proofs.YtfgibjkgiolonaaS
