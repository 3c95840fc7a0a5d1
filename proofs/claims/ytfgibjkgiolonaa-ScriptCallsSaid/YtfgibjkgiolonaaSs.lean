/- outlawref25.Same: are two scripts the same? -/
import Derived.Test.YtfgibjkgiolonaaWm
import Derived.Test.YtfgibjkgiolonaaSh
set_option linter.unusedVariables false
set_option linter.unusedSimpArgs false
namespace Go.Proofs.YtfgibjkgiolonaaS
open Go.RowKit Go.Proofs.YtfgibjkgiolonaaW.PrintWords Go.Proofs.YtfgibjkgiolonaaW.PrintLast Go.Proofs.YtfgibjkgiolonaaW.PrintMore Go.Proofs.YtfgibjkgiolonaaX Go.Proofs.Ytfgibjkgiolonaa.PA Go.Proofs.YtfgibjkgiolonaaG
attribute [local go_sem high] eqA42
theorem below7 {w a : World} {n I : Nat} (h : Below n a w) (hI : n ≤ I) (a0 a1 a2 a3 a4 a5 a6 : Value) :
  Below n a (((((((w.setCell ⟨I, 0, none⟩ a0).setCell ⟨I, 1, none⟩ a1).setCell ⟨I, 2, none⟩ a2).setCell ⟨I, 3, none⟩ a3).setCell ⟨I, 4, none⟩ a4).setCell ⟨I, 5, none⟩ a5).setCell ⟨I, 6, none⟩ a6) :=
 ((((((h.setCell (p := ⟨I, 0, none⟩) hI a0).setCell (p := ⟨I, 1, none⟩) hI a1).setCell (p := ⟨I, 2, none⟩) hI a2).setCell (p := ⟨I, 3, none⟩) hI a3).setCell (p := ⟨I, 4, none⟩) hI a4).setCell (p := ⟨I, 5, none⟩) hI a5).setCell (p := ⟨I, 6, none⟩) hI a6
theorem drop_step {l m : List Int} {q : Nat} (h1 : q < l.length) (h2 : q < m.length) : (l.drop q == m.drop q) = ((l.getD q 0 == m.getD q 0) && (l.drop (q + 1) == m.drop (q + 1))) := by
 have e1 : l.getD q 0 = l[q] := by simp [List.getD_eq_getElem?_getD, List.getElem?_eq_getElem h1]
 have e2 : m.getD q 0 = m[q] := by simp [List.getD_eq_getElem?_getD, List.getElem?_eq_getElem h2]
 rw [e1, e2, List.drop_eq_getElem_cons h1, List.drop_eq_getElem_cons h2, List.cons_beq_cons]
set_option maxHeartbeats 8000000 in
set_option maxRecDepth 100000 in
theorem refSame_any (b1 : ByteArray) (s1 : Int) (A : Option Addr) (c : Nat) (l : List S45) (b2 : ByteArray) (s2 : Int) (B : Option Addr) (d : Nat) (m : List S45) (w : World) (hl : Kd.C k45 w A l.length l) (hm : Kd.C k45 w B m.length m) (hf : fewCuts l) (hb : l.length ≤ 1000000000000) (hb2 : m.length ≤ 1000000000000) :
  Calls Try.prog 21 #[.agg #[.string b1, .int .i64 s1, .slice A l.length c], .agg #[.string b2, .int .i64 s2, .slice B m.length d]] w fun e w' => e = .returned (.bool (sameS b1 s1 l b2 s2 m)) ∧ Below w.heap.size w w' := by
 have HL := Lib.hid (And.intro hl (And.intro hm (And.intro hf (And.intro hb hb2))))
 have HB := Lib.hid (((Below.refl w.heap.size w).alloc (Nat.le_refl _) (.cells #[.string b1, .int .i64 s1, .slice A l.length c] 24)).alloc (by simp) (.cells #[.string b2, .int .i64 s2, .slice B m.length d] 24))
 clear hl hm hf hb hb2
 by_cases h1 : (b1.toList == b2.toList) = true
 ·by_cases h2 : (s1 == s2) = true
  ·by_cases h3 : l.length = m.length
   ·have HE := Lib.hid (show sameS b1 s1 l b2 s2 m = sameSteps l m by unfold sameS; rw [h1, h2]; simp)
    have HN := Lib.hid h3
    have h1b : (b1.toList == b2.toList) = true := h1
    have h2b : (s1 != s2) = false := by simp [bne, h2]
    have h3b : ((l.length : Int) != (m.length : Int)) = false := by simp [h3]
    clear h1 h2 h3
    go_enter Try.func21, Try.ntmps21
    go_wp2_with fail
    have HP := Lib.hid (show Blk ((w.alloc (Obj.cells #[Value.string b1, Value.int IntKind.i64 s1, Value.slice A l.length c] 24)).alloc (Obj.cells #[Value.string b2, Value.int IntKind.i64 s2, Value.slice B m.length d] 24)) w.heap.size #[Value.string b1, Value.int IntKind.i64 s1, Value.slice A l.length c] 24 from (Blk.new w _ 24).alloc _)
    have HQ := Lib.hid (show Blk ((w.alloc (Obj.cells #[Value.string b1, Value.int IntKind.i64 s1, Value.slice A l.length c] 24)).alloc (Obj.cells #[Value.string b2, Value.int IntKind.i64 s2, Value.slice B m.length d] 24)) (w.heap.size + 1) #[Value.string b2, Value.int IntKind.i64 s2, Value.slice B m.length d] 24 by
     have h := Blk.new (w.alloc (Obj.cells #[Value.string b1, Value.int IntKind.i64 s1, Value.slice A l.length c] 24)) #[Value.string b2, Value.int IntKind.i64 s2, Value.slice B m.length d] 24
     rwa [show (w.alloc (Obj.cells #[Value.string b1, Value.int IntKind.i64 s1, Value.slice A l.length c] 24)).heap.size = w.heap.size + 1 by simp] at h)
    go_loopw [5] (fun i wr => ∃ k : Nat, k ≤ l.length ∧ i = .int .i64 k ∧ Hid (Below w.heap.size w wr ∧ Blk wr w.heap.size #[Value.string b1, Value.int IntKind.i64 s1, Value.slice A l.length c] 24 ∧ Blk wr (w.heap.size + 1) #[Value.string b2, Value.int IntKind.i64 s2, Value.slice B m.length d] 24 ∧ sameSteps (l.drop k) (m.drop k) = sameSteps l m)) (fun i _ => l.length - (intOf i).toNat)
    case atStart => exact ⟨0, Nat.zero_le _, rfl, Lib.hid ⟨HB.out, HP.out, HQ.out, rfl⟩⟩
    case round =>
     obtain ⟨k, hk, rfl, HR⟩ := hrel
     have p2 : wr.cell? ⟨w.heap.size, 2, none⟩ = some (.slice A l.length c) := HR.out.2.1.cell 2
     have q2 : wr.cell? ⟨w.heap.size + 1, 2, none⟩ = some (.slice B m.length d) := HR.out.2.2.1.cell 2
     have p2b := HR.out.2.1.frozen 2
     by_cases hlt : k < l.length
     ·have hlt2 : k < m.length := by rw [← HN.out]; exact hlt
      obtain ⟨ad, A6, c6, hA, e0, e1, e2, e3, e4, e5, e6, hc6, hC6⟩ := at_T45 HL.out.1 (k : Int) (by omega) (by omega)
      obtain ⟨bd, B6, d6, hB, f0, f1, f2, f3, f4, f5, f6, hd6, hD6⟩ := at_T45 HL.out.2.1 (k : Int) (by omega) (by omega)
      subst hA hB
      have HS := Lib.hid (HR.out.2.2.2.symm.trans (sameSteps_drop hlt hlt2))
      have HX := Lib.hid (HL.out.2.2.1 (rd_T45 l k) (by unfold rd_T45; simp [List.getD_eq_getElem?_getD, List.getElem?_eq_getElem hlt]))
      obtain ⟨x, hx⟩ : ∃ x, rd_T45 l (k : Int) = x := ⟨_, rfl⟩
      obtain ⟨y, hy⟩ : ∃ y, rd_T45 m (k : Int) = y := ⟨_, rfl⟩
      rw [hx] at e0 e1 e2 e3 e4 e5 e6 hc6 hC6 HX HS
      rw [hy] at f0 f1 f2 f3 f4 f5 f6 hd6 hD6 HS
      simp only [Int.toNat_natCast] at e0 e1 e2 e3 e4 e5 e6 f0 f1 f2 f3 f4 f5 f6
      have HC := Lib.hid (And.intro hC6 (And.intro hc6 (And.intro hD6 hd6)))
      clear hx hy hC6 hc6 hD6 hd6
      go_wp2_with fail
      refine start_ (n := 14) (S := fun w' => Blk w' w.heap.size #[Value.string b1, Value.int IntKind.i64 s1, Value.slice (some ad) l.length c] 24 ∧ Blk w' (w.heap.size + 1) #[Value.string b2, Value.int IntKind.i64 s2, Value.slice (some bd) m.length d] 24 ∧ Below w.heap.size w w') (ds := []) #[false, false, false, false, false, false, false, false, false, false, false, false, false, false] (by as_aux_lemma => kernel_rfl) rfl rfl (⟨HR.out.2.1.drew, HR.out.2.2.1.drew, HR.out.1.drew⟩) (fun hHeld => ?_)
      refine pq_ 0 37 (mb_ 14 1) rfl ?_
      refine pq_ 2 39 (mb_ 14 5) rfl ?_
      refine pq_ 5 42 (mb_ 14 37) rfl ?_
      refine pq_ 7 44 (mb_ 14 165) rfl ?_
      refine take_ (i := 1) (N := some 38) (v := ?_) (a' := ?_) #[true, true, true, false, false, true, false, true, false, false, false, false, false, false] rfl rfl (by as_aux_lemma => kernel_rfl) (fun _ _ _ h => h) (Or.inl ⟨by rfl, ?_⟩) hHeld ?_ ?_
      rotate_left
      ·rintro w' ⟨sA, sB, sW⟩
       have q2 : w'.cell? ⟨w.heap.size, 2, none⟩ = some (.slice (some ad) l.length c) := sA.cell 2
       go_simp
       with_reducible rfl
      rotate_left
      ·simp only [Act.put, List.setIfInBounds_toArray, List.set_cons_zero, List.set_cons_succ, i64_w, i32_w]
       rfl
      refine pq_ 3 40 (mb_ 14 175) rfl ?_
      refine take_ (i := 4) (N := some 41) (v := ?_) (a' := ?_) #[true, true, true, true, true, true, false, true, false, false, false, false, false, false] rfl rfl (by as_aux_lemma => kernel_rfl) (fun _ _ _ h => h) (Or.inl ⟨by rfl, ?_⟩) hHeld ?_ ?_
      rotate_left
      ·rintro w' ⟨sA, sB, sW⟩
       have g0 := (sW.cell (World.block_lt_of_cell? w _ e0)).trans e0
       have g1 := (sW.cell (World.block_lt_of_cell? w _ e1)).trans e1
       have g2 := (sW.cell (World.block_lt_of_cell? w _ e2)).trans e2
       have g3 := (sW.cell (World.block_lt_of_cell? w _ e3)).trans e3
       have g4 := (sW.cell (World.block_lt_of_cell? w _ e4)).trans e4
       have g5 := (sW.cell (World.block_lt_of_cell? w _ e5)).trans e5
       have g6 := (sW.cell (World.block_lt_of_cell? w _ e6)).trans e6
       go_simp
       with_reducible rfl
      rotate_left
      ·simp only [Act.put, List.setIfInBounds_toArray, List.set_cons_zero, List.set_cons_succ, i64_w, i32_w]
       rfl
      refine take_ (i := 6) (N := some 43) (v := ?_) (a' := ?_) #[true, true, true, true, true, true, true, true, false, false, false, false, false, false] rfl rfl (by as_aux_lemma => kernel_rfl) (fun _ _ _ h => h) (Or.inl ⟨by rfl, ?_⟩) hHeld ?_ ?_
      rotate_left
      ·rintro w' ⟨sA, sB, sW⟩
       have q2 : w'.cell? ⟨w.heap.size + 1, 2, none⟩ = some (.slice (some bd) m.length d) := sB.cell 2
       go_simp
       with_reducible rfl
      rotate_left
      ·simp only [Act.put, List.setIfInBounds_toArray, List.set_cons_zero, List.set_cons_succ, i64_w, i32_w]
       rfl
      refine pq_ 8 45 (mb_ 14 511) rfl ?_
      refine take_ (i := 9) (N := some 46) (v := ?_) (a' := ?_) #[true, true, true, true, true, true, true, true, true, true, false, false, false, false] rfl rfl (by as_aux_lemma => kernel_rfl) (fun _ _ _ h => h) (Or.inl ⟨by rfl, ?_⟩) hHeld ?_ ?_
      rotate_left
      ·rintro w' ⟨sA, sB, sW⟩
       have g0 := (sW.cell (World.block_lt_of_cell? w _ f0)).trans f0
       have g1 := (sW.cell (World.block_lt_of_cell? w _ f1)).trans f1
       have g2 := (sW.cell (World.block_lt_of_cell? w _ f2)).trans f2
       have g3 := (sW.cell (World.block_lt_of_cell? w _ f3)).trans f3
       have g4 := (sW.cell (World.block_lt_of_cell? w _ f4)).trans f4
       have g5 := (sW.cell (World.block_lt_of_cell? w _ f5)).trans f5
       have g6 := (sW.cell (World.block_lt_of_cell? w _ f6)).trans f6
       go_simp
       with_reducible rfl
      rotate_left
      ·simp only [Act.put, List.setIfInBounds_toArray, List.set_cons_zero, List.set_cons_succ, i64_w, i32_w]
       rfl
      refine join_ (σ := Nat × Nat) 2 (mb_ 14 4095) (fun s_ => [(6, .pointer (some ⟨s_.1, 0, none⟩)), (7, .pointer (some ⟨s_.2, 0, none⟩))]) (fun s_ w' => Blk w' s_.1 #[.bool false, .int .i64 0, .int .i64 0, .int .i64 0, .bool false, .string ⟨#[]⟩, .slice none 0 0] 45 ∧ Blk w' s_.2 #[.bool false, .int .i64 0, .int .i64 0, .int .i64 0, .bool false, .string ⟨#[]⟩, .slice none 0 0] 45 ∧ s_.1 ≠ s_.2 ∧ w.heap.size + 2 ≤ s_.1 ∧ w.heap.size + 2 ≤ s_.2 ∧ Blk w' w.heap.size #[Value.string b1, Value.int IntKind.i64 s1, Value.slice (some ad) l.length c] 24 ∧ Blk w' (w.heap.size + 1) #[Value.string b2, Value.int IntKind.i64 s2, Value.slice (some bd) m.length d] 24 ∧ Below w.heap.size w w') ?_ ?_
      rotate_left
      ·intro hCont
       refine two_ (i := 10) (j := 11) (Ni := some 6) (Nj := some 7) (mb_ 14 2047) (mb_ 14 3071) rfl rfl rfl rfl (by as_aux_lemma => kernel_rfl) (by decide) (by decide) (fun K hK => ?_) (fun K hK => ?_)
       ·refine box_step ?hg (N := 6) ?hd (cs := #[.bool false, .int .i64 0, .int .i64 0, .int .i64 0, .bool false, .string ⟨#[]⟩, .slice none 0 0]) (t := 45) ?hr ?_; (case hd => rfl); (case hg => rfl); (case hr => first | (go_simp; done) | (go_simp; rfl))
        intro g1 hg1 W1 hz1 hb1
        have hs0 : w.heap.size + 2 ≤ wr.drew.heap.size := hHeld.2.1.lt
        have hA1 := hHeld.1.below hb1 (by omega)
        have hB1 := hHeld.2.1.below hb1 hHeld.2.1.lt
        have hW1 := hHeld.2.2.trans (hb1.mono hHeld.2.2.size)
        have hlt1 : g1 < W1.heap.size := Blk.lt hz1
        refine hK.out _ _ ⟨hA1, hB1, hW1⟩ (fun hHeld2 => ?_)
        clear hK K
        refine norm_ (a' := ?_) ?_ ?_
        rotate_left
        ·show Act.put _ (some 6) _ = _
         simp only [Act.put, List.setIfInBounds_toArray, List.set_cons_zero, List.set_cons_succ, i64_w, i32_w]
         rfl
        refine one_ (i := 11) (N := some 7) (mb_ 14 4095) rfl rfl (by as_aux_lemma => kernel_rfl) (by decide) (fun K hK => ?_)
        refine box_step ?hg (N := 7) ?hd (cs := #[.bool false, .int .i64 0, .int .i64 0, .int .i64 0, .bool false, .string ⟨#[]⟩, .slice none 0 0]) (t := 45) ?hr ?_; (case hd => rfl); (case hg => rfl); (case hr => first | (go_simp; done) | (go_simp; rfl))
        intro g2 hg2 W2 hz2 hb2
        have hA2 := hA1.below hb2 hA1.lt
        have hB2 := hB1.below hb2 hB1.lt
        have hW2 := hW1.trans (hb2.mono hW1.size)
        refine hK.out _ _ ⟨hA2, hB2, hW2⟩ (fun hHeld3 => ?_)
        clear hK K
        refine norm_ (a' := ?_) ?_ ?_
        rotate_left
        ·show Act.put _ (some 7) _ = _
         simp only [Act.put, List.setIfInBounds_toArray, List.set_cons_zero, List.set_cons_succ, i64_w, i32_w]
         rfl
        have hz1' : Blk W2 g1 #[.bool false, .int .i64 0, .int .i64 0, .int .i64 0, .bool false, .string ⟨#[]⟩, .slice none 0 0] 45 := Blk.below hz1 hb2 hlt1
        have hz2' : Blk W2 g2 #[.bool false, .int .i64 0, .int .i64 0, .int .i64 0, .bool false, .string ⟨#[]⟩, .slice none 0 0] 45 := hz2
        exact norm_ (by simp only [putAll, Act.put, List.setIfInBounds_toArray, List.set_cons_zero, List.set_cons_succ]) (hCont (g1, g2) _ ⟨hz1', hz2', by show g1 ≠ g2; omega, by show _ ≤ g1; omega, by show _ ≤ g2; omega, hA2, hB2, hW2⟩)
       ·refine box_step ?hg (N := 7) ?hd (cs := #[.bool false, .int .i64 0, .int .i64 0, .int .i64 0, .bool false, .string ⟨#[]⟩, .slice none 0 0]) (t := 45) ?hr ?_; (case hd => rfl); (case hg => rfl); (case hr => first | (go_simp; done) | (go_simp; rfl))
        intro g1 hg1 W1 hz1 hb1
        have hs0 : w.heap.size + 2 ≤ wr.drew.heap.size := hHeld.2.1.lt
        have hA1 := hHeld.1.below hb1 (by omega)
        have hB1 := hHeld.2.1.below hb1 hHeld.2.1.lt
        have hW1 := hHeld.2.2.trans (hb1.mono hHeld.2.2.size)
        have hlt1 : g1 < W1.heap.size := Blk.lt hz1
        refine hK.out _ _ ⟨hA1, hB1, hW1⟩ (fun hHeld2 => ?_)
        clear hK K
        refine norm_ (a' := ?_) ?_ ?_
        rotate_left
        ·show Act.put _ (some 7) _ = _
         simp only [Act.put, List.setIfInBounds_toArray, List.set_cons_zero, List.set_cons_succ, i64_w, i32_w]
         rfl
        refine one_ (i := 10) (N := some 6) (mb_ 14 4095) rfl rfl (by as_aux_lemma => kernel_rfl) (by decide) (fun K hK => ?_)
        refine box_step ?hg (N := 6) ?hd (cs := #[.bool false, .int .i64 0, .int .i64 0, .int .i64 0, .bool false, .string ⟨#[]⟩, .slice none 0 0]) (t := 45) ?hr ?_; (case hd => rfl); (case hg => rfl); (case hr => first | (go_simp; done) | (go_simp; rfl))
        intro g2 hg2 W2 hz2 hb2
        have hA2 := hA1.below hb2 hA1.lt
        have hB2 := hB1.below hb2 hB1.lt
        have hW2 := hW1.trans (hb2.mono hW1.size)
        refine hK.out _ _ ⟨hA2, hB2, hW2⟩ (fun hHeld3 => ?_)
        clear hK K
        refine norm_ (a' := ?_) ?_ ?_
        rotate_left
        ·show Act.put _ (some 6) _ = _
         simp only [Act.put, List.setIfInBounds_toArray, List.set_cons_zero, List.set_cons_succ, i64_w, i32_w]
         rfl
        have hz1' : Blk W2 g1 #[.bool false, .int .i64 0, .int .i64 0, .int .i64 0, .bool false, .string ⟨#[]⟩, .slice none 0 0] 45 := Blk.below hz1 hb2 hlt1
        have hz2' : Blk W2 g2 #[.bool false, .int .i64 0, .int .i64 0, .int .i64 0, .bool false, .string ⟨#[]⟩, .slice none 0 0] 45 := hz2
        exact norm_ (by simp only [putAll, Act.put, List.setIfInBounds_toArray, List.set_cons_zero, List.set_cons_succ]) (hCont (g2, g1) _ ⟨hz2', hz1', by show g2 ≠ g1; omega, by show _ ≤ g2; omega, by show _ ≤ g1; omega, hA2, hB2, hW2⟩)
      rintro ⟨I, J⟩ W2 ⟨hI, hJ, hIJ, hI2, hJ2, hA2, hB2, hW2⟩
      simp only at hI hJ hIJ hI2 hJ2
      refine norm_ (a' := ?_) ?_ ?_
      rotate_left
      ·simp only [putAll, Act.put, List.setIfInBounds_toArray, List.set_cons_zero, List.set_cons_succ]
       rfl
      obtain ⟨W5, hW5⟩ : ∃ W5 : World, (((((((W2.setCell ⟨I, 0, none⟩ (.bool x.f0)).setCell ⟨I, 1, none⟩ (.int .i64 x.f1.f0)).setCell ⟨I, 2, none⟩ (.int .i64 x.f1.f1)).setCell ⟨I, 3, none⟩ (.int .i64 x.f1.f2)).setCell ⟨I, 4, none⟩ (.bool x.f1.f3)).setCell ⟨I, 5, none⟩ (.string x.f1.f4)).setCell ⟨I, 6, none⟩ (.slice A6 x.f2.length c6)) = W5 := ⟨_, rfl⟩
      have hI5 : Blk W5 I #[.bool x.f0, .int .i64 x.f1.f0, .int .i64 x.f1.f1, .int .i64 x.f1.f2, .bool x.f1.f3, .string x.f1.f4, .slice A6 x.f2.length c6] 45 := by rw [← hW5]; exact set7 hI _ _ _ _ _ _ _
      have hJ5 : Blk W5 J #[.bool false, .int .i64 0, .int .i64 0, .int .i64 0, .bool false, .string ⟨#[]⟩, .slice none 0 0] 45 := by rw [← hW5]; exact blk7 hJ hIJ.symm _ _ _ _ _ _ _
      have hA5 : Blk W5 w.heap.size #[Value.string b1, Value.int IntKind.i64 s1, Value.slice (some ad) l.length c] 24 := by rw [← hW5]; exact blk7 hA2 (by omega) _ _ _ _ _ _ _
      have hB5 : Blk W5 (w.heap.size + 1) #[Value.string b2, Value.int IntKind.i64 s2, Value.slice (some bd) m.length d] 24 := by rw [← hW5]; exact blk7 hB2 (by omega) _ _ _ _ _ _ _
      have hE5 : Below w.heap.size w W5 := by rw [← hW5]; exact below7 hW2 (by omega) _ _ _ _ _ _ _
      obtain ⟨W6, hW6⟩ : ∃ W6 : World, (((((((W5.setCell ⟨J, 0, none⟩ (.bool y.f0)).setCell ⟨J, 1, none⟩ (.int .i64 y.f1.f0)).setCell ⟨J, 2, none⟩ (.int .i64 y.f1.f1)).setCell ⟨J, 3, none⟩ (.int .i64 y.f1.f2)).setCell ⟨J, 4, none⟩ (.bool y.f1.f3)).setCell ⟨J, 5, none⟩ (.string y.f1.f4)).setCell ⟨J, 6, none⟩ (.slice B6 y.f2.length d6)) = W6 := ⟨_, rfl⟩
      have hI6 : Blk W6 I #[.bool x.f0, .int .i64 x.f1.f0, .int .i64 x.f1.f1, .int .i64 x.f1.f2, .bool x.f1.f3, .string x.f1.f4, .slice A6 x.f2.length c6] 45 := by rw [← hW6]; exact blk7 hI5 hIJ _ _ _ _ _ _ _
      have hJ6 : Blk W6 J #[.bool y.f0, .int .i64 y.f1.f0, .int .i64 y.f1.f1, .int .i64 y.f1.f2, .bool y.f1.f3, .string y.f1.f4, .slice B6 y.f2.length d6] 45 := by rw [← hW6]; exact set7 hJ5 _ _ _ _ _ _ _
      have hA6 : Blk W6 w.heap.size #[Value.string b1, Value.int IntKind.i64 s1, Value.slice (some ad) l.length c] 24 := by rw [← hW6]; exact blk7 hA5 (by omega) _ _ _ _ _ _ _
      have hB6 : Blk W6 (w.heap.size + 1) #[Value.string b2, Value.int IntKind.i64 s2, Value.slice (some bd) m.length d] 24 := by rw [← hW6]; exact blk7 hB5 (by omega) _ _ _ _ _ _ _
      have hE6 : Below w.heap.size w W6 := by rw [← hW6]; exact below7 hE5 (by omega) _ _ _ _ _ _ _
      refine one_ (i := 12) (N := none) (mb_ 14 8191) rfl rfl (by as_aux_lemma => kernel_rfl) (by decide) (fun K hK => ?_)
      obtain ⟨k0, k1, k2, k3, k4, k5, k6, z0, z1, z2, z3, z4, z5, z6⟩ := seven hI
      refine skip_ (w1 := W5) (by rfl) rfl ?_ ?_
      ·rw [← hW5]
       go_simp
      refine hK.out _ _ ⟨hA5, hB5, hE5⟩ (fun hHeld9 => ?_)
      clear hK K k0 k1 k2 k3 k4 k5 k6 z0 z1 z2 z3 z4 z5 z6
      clear hHeld9
      refine one_ (i := 13) (N := none) (mb_ 14 16383) rfl rfl (by as_aux_lemma => kernel_rfl) (by decide) (fun K hK => ?_)
      obtain ⟨k0, k1, k2, k3, k4, k5, k6, z0, z1, z2, z3, z4, z5, z6⟩ := seven hJ5
      refine skip_ (w1 := W6) (by rfl) rfl ?_ ?_
      ·rw [← hW6]
       go_simp
      refine hK.out _ _ ⟨hA6, hB6, hE6⟩ (fun hHeld9 => ?_)
      clear hK K k0 k1 k2 k3 k4 k5 k6 z0 z1 z2 z3 z4 z5 z6
      clear hHeld9 hW5 hW6 hI hJ hA2 hB2 hW2 hI5 hJ5 hA5 hB5 hE5
      refine done_ (by as_aux_lemma => kernel_rfl) ?_
      have HW := Lib.hid (And.intro hE6 (And.intro hA6 (And.intro hB6 (And.intro hI6 (And.intro hJ6 (And.intro hI2 hJ2))))))
      obtain ⟨i0, i1, i2, i3, i4, i5, i6, -, -, -, -, -, -, -⟩ := seven hI6
      obtain ⟨j0, j1, j2, j3, j4, j5, j6, -, -, -, -, -, -, -⟩ := seven hJ6
      clear hA6 hB6 hI6 hJ6 hE6 hI2 hJ2 e0 e1 e2 e3 e4 e5 e6 f0 f1 f2 f3 f4 f5 f6 p2 q2 p2b
      have HK := Lib.hid hIJ
      clear hIJ
      by_cases g1 : (x.f0 == y.f0) = true
      ·by_cases g2 : sameIn x.f1 y.f1 = true
       ·by_cases g3 : x.f2.length = y.f2.length
        ·have g3b : ((x.f2.length : Int) != (y.f2.length : Int)) = false := by simp [g3]
         have HG := Lib.hid (And.intro g1 (And.intro g2 g3))
         have g2b : (x.f1.f0 == y.f1.f0 && (x.f1.f1 == y.f1.f1 && (x.f1.f2 == y.f1.f2 && (x.f1.f3 == y.f1.f3 && (x.f1.f4.toList == y.f1.f4.toList))))) = true := g2
         clear g2 g3
         go_wp2_with fail
         clear g2b
         go_loopw [8] (fun i wr2 => ∃ q : Nat, q ≤ x.f2.length ∧ i = .int .i64 q ∧ Hid (Below w.heap.size w wr2 ∧ Blk wr2 w.heap.size #[Value.string b1, Value.int IntKind.i64 s1, Value.slice (some ad) l.length c] 24 ∧ Blk wr2 (w.heap.size + 1) #[Value.string b2, Value.int IntKind.i64 s2, Value.slice (some bd) m.length d] 24 ∧ Blk wr2 I #[.bool x.f0, .int .i64 x.f1.f0, .int .i64 x.f1.f1, .int .i64 x.f1.f2, .bool x.f1.f3, .string x.f1.f4, .slice A6 x.f2.length c6] 45 ∧ Blk wr2 J #[.bool y.f0, .int .i64 y.f1.f0, .int .i64 y.f1.f1, .int .i64 y.f1.f2, .bool y.f1.f3, .string y.f1.f4, .slice B6 y.f2.length d6] 45 ∧ (x.f2.drop q == y.f2.drop q) = (x.f2 == y.f2))) (fun i _ => x.f2.length - (intOf i).toNat)
         case atStart => exact ⟨0, Nat.zero_le _, rfl, Lib.hid ⟨HW.out.1, HW.out.2.1, HW.out.2.2.1, HW.out.2.2.2.1, HW.out.2.2.2.2.1, rfl⟩⟩
         case round =>
          clear i0 i1 i2 i3 i4 i5 i6 j0 j1 j2 j3 j4 j5 j6
          obtain ⟨q, hq, rfl, HR2⟩ := hrel
          obtain ⟨-, -, -, -, -, -, i6, -, -, -, -, -, -, -⟩ := seven HR2.out.2.2.2.1
          obtain ⟨-, -, -, -, -, -, j6, -, -, -, -, -, -, -⟩ := seven HR2.out.2.2.2.2.1
          by_cases hqt : q < x.f2.length
          ·have hqt2 : q < y.f2.length := by rw [← HG.out.2.2]; exact hqt
           obtain ⟨ax, rfl, cx⟩ := at_int HC.out.1 q hqt
           obtain ⟨ay, rfl, cy⟩ := at_int HC.out.2.2.1 q hqt2
           have HD := Lib.hid (drop_step hqt hqt2)
           obtain ⟨vx, hvx⟩ : ∃ v, x.f2.getD q 0 = v := ⟨_, rfl⟩
           obtain ⟨vy, hvy⟩ : ∃ v, y.f2.getD q 0 = v := ⟨_, rfl⟩
           rw [hvx] at cx HD
           rw [hvy] at cy HD
           clear hvx hvy
           by_cases hv : vx = vy
           ·have hvb : (vx != vy) = false := by simpa using hv
            have hvc : (vx == vy) = true := by simpa using hv
            have HE4 := Lib.hid (show (x.f2.drop (q + 1) == y.f2.drop (q + 1)) = (x.f2 == y.f2) by rw [← HR2.out.2.2.2.2.2, HD.out, show (vx == vy) = true by simpa using hv, Bool.true_and])
            clear hv
            go_wp2_with fail
            refine start_ (n := 11) (S := fun w' => Below w.heap.size w w' ∧ Blk w' w.heap.size #[Value.string b1, Value.int IntKind.i64 s1, Value.slice (some ad) l.length c] 24 ∧ Blk w' (w.heap.size + 1) #[Value.string b2, Value.int IntKind.i64 s2, Value.slice (some bd) m.length d] 24 ∧ Blk w' I #[.bool x.f0, .int .i64 x.f1.f0, .int .i64 x.f1.f1, .int .i64 x.f1.f2, .bool x.f1.f3, .string x.f1.f4, .slice (some ax) x.f2.length c6] 45 ∧ Blk w' J #[.bool y.f0, .int .i64 y.f1.f0, .int .i64 y.f1.f1, .int .i64 y.f1.f2, .bool y.f1.f3, .string y.f1.f4, .slice (some ay) y.f2.length d6] 45) (ds := []) #[false, false, false, false, false, false, false, false, false, false, false] (by as_aux_lemma => kernel_rfl) rfl rfl (⟨HR2.out.1.drew, HR2.out.2.1.drew, HR2.out.2.2.1.drew, HR2.out.2.2.2.1.drew, HR2.out.2.2.2.2.1.drew⟩) (fun hHeld => ?_)
            refine pq_ 0 75 (mb_ 11 1) rfl ?_
            refine pq_ 2 77 (mb_ 11 5) rfl ?_
            refine pq_ 5 80 (mb_ 11 37) rfl ?_
            refine pq_ 7 82 (mb_ 11 165) rfl ?_
            refine take_ (i := 1) (N := some 76) (v := ?_) (a' := ?_) #[true, true, true, false, false, true, false, true, false, false, false] rfl rfl (by as_aux_lemma => kernel_rfl) (fun _ _ _ h => h) (Or.inl ⟨by rfl, ?_⟩) hHeld ?_ ?_
            rotate_left
            ·rintro w' ⟨sW, sA, sB, sI, sJ⟩
             have q6 : w'.cell? ⟨I, 6, none⟩ = some (.slice (some ax) x.f2.length c6) := sI.cell 6
             go_simp
             with_reducible rfl
            rotate_left
            ·simp only [Act.put, List.setIfInBounds_toArray, List.set_cons_zero, List.set_cons_succ, i64_w, i32_w]
             rfl
            refine pq_ 3 78 (mb_ 11 175) rfl ?_
            refine take_ (i := 4) (N := some 79) (v := ?_) (a' := ?_) #[true, true, true, true, true, true, false, true, false, false, false] rfl rfl (by as_aux_lemma => kernel_rfl) (fun _ _ _ h => h) (Or.inl ⟨by rfl, ?_⟩) hHeld ?_ ?_
            rotate_left
            ·rintro w' ⟨sW, sA, sB, sI, sJ⟩
             have q6 := (sW.cell (World.block_lt_of_cell? w _ cx)).trans cx
             go_simp
             with_reducible rfl
            rotate_left
            ·simp only [Act.put, List.setIfInBounds_toArray, List.set_cons_zero, List.set_cons_succ, i64_w, i32_w]
             rfl
            refine take_ (i := 6) (N := some 81) (v := ?_) (a' := ?_) #[true, true, true, true, true, true, true, true, false, false, false] rfl rfl (by as_aux_lemma => kernel_rfl) (fun _ _ _ h => h) (Or.inl ⟨by rfl, ?_⟩) hHeld ?_ ?_
            rotate_left
            ·rintro w' ⟨sW, sA, sB, sI, sJ⟩
             have q6 : w'.cell? ⟨J, 6, none⟩ = some (.slice (some ay) y.f2.length d6) := sJ.cell 6
             go_simp
             with_reducible rfl
            rotate_left
            ·simp only [Act.put, List.setIfInBounds_toArray, List.set_cons_zero, List.set_cons_succ, i64_w, i32_w]
             rfl
            refine pq_ 8 83 (mb_ 11 511) rfl ?_
            refine take_ (i := 9) (N := some 84) (v := ?_) (a' := ?_) #[true, true, true, true, true, true, true, true, true, true, false] rfl rfl (by as_aux_lemma => kernel_rfl) (fun _ _ _ h => h) (Or.inl ⟨by rfl, ?_⟩) hHeld ?_ ?_
            rotate_left
            ·rintro w' ⟨sW, sA, sB, sI, sJ⟩
             have q6 := (sW.cell (World.block_lt_of_cell? w _ cy)).trans cy
             go_simp
             with_reducible rfl
            rotate_left
            ·simp only [Act.put, List.setIfInBounds_toArray, List.set_cons_zero, List.set_cons_succ, i64_w, i32_w]
             rfl
            refine pq_ 10 85 (mb_ 11 2047) rfl ?_
            refine done_ (by as_aux_lemma => kernel_rfl) ?_
            go_wp2_with fail
            have hw1 : wrap64 ((q : Int) + 1) = ((q + 1 : Nat) : Int) := by have := HL.out.2.2.2.1; have := HX.out; unfold wrap64; omega
            rw [hw1]
            refine ⟨⟨q + 1, by omega, rfl, Lib.hid ⟨hHeld.1, hHeld.2.1, hHeld.2.2.1, hHeld.2.2.2.1, hHeld.2.2.2.2, HE4.out⟩⟩, ?_⟩
            show x.f2.length - (((q + 1 : Nat) : Int)).toNat < x.f2.length - ((q : Int)).toNat
            omega
           ·have hvb : (vx != vy) = true := by simpa using hv
            have hvc : (vx == vy) = false := by simpa using hv
            have HE4 := Lib.hid (show (x.f2 == y.f2) = false by rw [← HR2.out.2.2.2.2.2, HD.out, show (vx == vy) = false by simpa using hv, Bool.false_and])
            have HS2 := Lib.hid (show sameStep x y = false by unfold sameStep; rw [HE4.out]; simp)
            clear hv
            go_wp2_with fail
            refine start_ (n := 11) (S := fun w' => Below w.heap.size w w' ∧ Blk w' w.heap.size #[Value.string b1, Value.int IntKind.i64 s1, Value.slice (some ad) l.length c] 24 ∧ Blk w' (w.heap.size + 1) #[Value.string b2, Value.int IntKind.i64 s2, Value.slice (some bd) m.length d] 24 ∧ Blk w' I #[.bool x.f0, .int .i64 x.f1.f0, .int .i64 x.f1.f1, .int .i64 x.f1.f2, .bool x.f1.f3, .string x.f1.f4, .slice (some ax) x.f2.length c6] 45 ∧ Blk w' J #[.bool y.f0, .int .i64 y.f1.f0, .int .i64 y.f1.f1, .int .i64 y.f1.f2, .bool y.f1.f3, .string y.f1.f4, .slice (some ay) y.f2.length d6] 45) (ds := []) #[false, false, false, false, false, false, false, false, false, false, false] (by as_aux_lemma => kernel_rfl) rfl rfl (⟨HR2.out.1.drew, HR2.out.2.1.drew, HR2.out.2.2.1.drew, HR2.out.2.2.2.1.drew, HR2.out.2.2.2.2.1.drew⟩) (fun hHeld => ?_)
            refine pq_ 0 75 (mb_ 11 1) rfl ?_
            refine pq_ 2 77 (mb_ 11 5) rfl ?_
            refine pq_ 5 80 (mb_ 11 37) rfl ?_
            refine pq_ 7 82 (mb_ 11 165) rfl ?_
            refine take_ (i := 1) (N := some 76) (v := ?_) (a' := ?_) #[true, true, true, false, false, true, false, true, false, false, false] rfl rfl (by as_aux_lemma => kernel_rfl) (fun _ _ _ h => h) (Or.inl ⟨by rfl, ?_⟩) hHeld ?_ ?_
            rotate_left
            ·rintro w' ⟨sW, sA, sB, sI, sJ⟩
             have q6 : w'.cell? ⟨I, 6, none⟩ = some (.slice (some ax) x.f2.length c6) := sI.cell 6
             go_simp
             with_reducible rfl
            rotate_left
            ·simp only [Act.put, List.setIfInBounds_toArray, List.set_cons_zero, List.set_cons_succ, i64_w, i32_w]
             rfl
            refine pq_ 3 78 (mb_ 11 175) rfl ?_
            refine take_ (i := 4) (N := some 79) (v := ?_) (a' := ?_) #[true, true, true, true, true, true, false, true, false, false, false] rfl rfl (by as_aux_lemma => kernel_rfl) (fun _ _ _ h => h) (Or.inl ⟨by rfl, ?_⟩) hHeld ?_ ?_
            rotate_left
            ·rintro w' ⟨sW, sA, sB, sI, sJ⟩
             have q6 := (sW.cell (World.block_lt_of_cell? w _ cx)).trans cx
             go_simp
             with_reducible rfl
            rotate_left
            ·simp only [Act.put, List.setIfInBounds_toArray, List.set_cons_zero, List.set_cons_succ, i64_w, i32_w]
             rfl
            refine take_ (i := 6) (N := some 81) (v := ?_) (a' := ?_) #[true, true, true, true, true, true, true, true, false, false, false] rfl rfl (by as_aux_lemma => kernel_rfl) (fun _ _ _ h => h) (Or.inl ⟨by rfl, ?_⟩) hHeld ?_ ?_
            rotate_left
            ·rintro w' ⟨sW, sA, sB, sI, sJ⟩
             have q6 : w'.cell? ⟨J, 6, none⟩ = some (.slice (some ay) y.f2.length d6) := sJ.cell 6
             go_simp
             with_reducible rfl
            rotate_left
            ·simp only [Act.put, List.setIfInBounds_toArray, List.set_cons_zero, List.set_cons_succ, i64_w, i32_w]
             rfl
            refine pq_ 8 83 (mb_ 11 511) rfl ?_
            refine take_ (i := 9) (N := some 84) (v := ?_) (a' := ?_) #[true, true, true, true, true, true, true, true, true, true, false] rfl rfl (by as_aux_lemma => kernel_rfl) (fun _ _ _ h => h) (Or.inl ⟨by rfl, ?_⟩) hHeld ?_ ?_
            rotate_left
            ·rintro w' ⟨sW, sA, sB, sI, sJ⟩
             have q6 := (sW.cell (World.block_lt_of_cell? w _ cy)).trans cy
             go_simp
             with_reducible rfl
            rotate_left
            ·simp only [Act.put, List.setIfInBounds_toArray, List.set_cons_zero, List.set_cons_succ, i64_w, i32_w]
             rfl
            refine pq_ 10 85 (mb_ 11 2047) rfl ?_
            refine done_ (by as_aux_lemma => kernel_rfl) ?_
            go_wp2_with fail
            go_ret
            exact ⟨by rw [HE.out, HS.out, HS2.out]; rfl, hHeld.1⟩
          ·obtain rfl : q = x.f2.length := by omega
           have HE3 := Lib.hid (show (x.f2 == y.f2) = true by rw [← HR2.out.2.2.2.2.2, List.drop_length, HG.out.2.2, List.drop_length]; rfl)
           have HS2 := Lib.hid (show sameStep x y = true by unfold sameStep; rw [HE3.out, HG.out.1, HG.out.2.1]; rfl)
           go_wp2_with fail
           have hw1 : wrap64 ((k : Int) + 1) = ((k + 1 : Nat) : Int) := by have := HL.out.2.2.2.1; unfold wrap64; omega
           rw [hw1]
           refine ⟨⟨k + 1, by omega, rfl, Lib.hid ⟨HR2.out.1, HR2.out.2.1, HR2.out.2.2.1, ?_⟩⟩, ?_⟩
           ·rw [HS.out, HS2.out, Bool.true_and]
           ·show l.length - (((k + 1 : Nat) : Int)).toNat < l.length - ((k : Int)).toNat
            omega
        ·have HS2 := Lib.hid (show sameStep x y = false by unfold sameStep; rw [show (x.f2 == y.f2) = false from by rw [beq_eq_false_iff_ne]; intro h; exact g3 (by rw [h])]; simp)
         have g3b : ((x.f2.length : Int) != (y.f2.length : Int)) = true := by simpa using fun h => g3 (by omega)
         have g2b : (x.f1.f0 == y.f1.f0 && (x.f1.f1 == y.f1.f1 && (x.f1.f2 == y.f1.f2 && (x.f1.f3 == y.f1.f3 && (x.f1.f4.toList == y.f1.f4.toList))))) = true := g2
         clear g2 g3
         go_wp2_with fail
         go_ret
         exact ⟨by rw [HE.out, HS.out, HS2.out]; rfl, HW.out.1⟩
       ·have g2f : sameIn x.f1 y.f1 = false := by simpa using g2
        have HS2 := Lib.hid (show sameStep x y = false by unfold sameStep; rw [g2f]; simp)
        have g2b : (x.f1.f0 == y.f1.f0 && (x.f1.f1 == y.f1.f1 && (x.f1.f2 == y.f1.f2 && (x.f1.f3 == y.f1.f3 && (x.f1.f4.toList == y.f1.f4.toList))))) = false := g2f
        clear g2 g2f
        go_wp2_with fail
        go_ret
        exact ⟨by rw [HE.out, HS.out, HS2.out]; rfl, HW.out.1⟩
      ·have g1f : (x.f0 == y.f0) = false := by simpa using g1
       have HS2 := Lib.hid (show sameStep x y = false by unfold sameStep; rw [g1f]; simp)
       clear g1
       go_wp2_with fail
       go_ret
       exact ⟨by rw [HE.out, HS.out, HS2.out]; rfl, HW.out.1⟩
     ·obtain rfl : k = l.length := by omega
      have HE2 := Lib.hid (show sameSteps l m = true by rw [← HR.out.2.2.2, List.drop_length, HN.out, List.drop_length]; rfl)
      go_wp2
      go_ret
      exact ⟨by rw [HE.out, HE2.out]; rfl, HR.out.1⟩
   ·have HE := Lib.hid (show sameS b1 s1 l b2 s2 m = false by unfold sameS; rw [sameSteps_ne h3]; simp)
    have h1b : (b1.toList == b2.toList) = true := h1
    have h2b : (s1 != s2) = false := by simp [bne, h2]
    have h3b : ((l.length : Int) != (m.length : Int)) = true := by simpa using fun h => h3 (by omega)
    clear h1 h2 h3
    go_enter Try.func21, Try.ntmps21
    go_wp2_with fail
    go_ret
    exact ⟨by rw [HE.out]; rfl, HB.out⟩
  ·have h2f : (s1 == s2) = false := by simpa using h2
   have HE := Lib.hid (show sameS b1 s1 l b2 s2 m = false by unfold sameS; rw [h1, h2f]; simp)
   have h1b : (b1.toList == b2.toList) = true := h1
   have h2b : (s1 != s2) = true := by simp [bne, h2f]
   clear h1 h2 h2f
   go_enter Try.func21, Try.ntmps21
   go_wp2_with fail
   go_ret
   exact ⟨by rw [HE.out]; rfl, HB.out⟩
 ·have h1f : (b1.toList == b2.toList) = false := by simpa using h1
  have HE := Lib.hid (show sameS b1 s1 l b2 s2 m = false by unfold sameS; rw [h1f]; simp)
  have h1b : (b1.toList == b2.toList) = false := h1f
  clear h1 h1f
  go_enter Try.func21, Try.ntmps21
  go_wp2_with fail
  go_ret
  exact ⟨by rw [HE.out]; rfl, HB.out⟩
def outlawref25_Same.f (b1 : ByteArray) (s1 : Int) (l : List S45) (b2 : ByteArray) (s2 : Int) (m : List S45) : Option Bool := if fewCuts l ∧ l.length ≤ 1000000000000 ∧ m.length ≤ 1000000000000 then some (sameS b1 s1 l b2 s2 m) else none
theorem outlawref25_Same.calls (a0_0 : ByteArray) (a0_1 : Int) (A0_2 : Option Addr) (c0_2 : Nat) (l0_2 : List S45) (a1_0 : ByteArray) (a1_1 : Int) (A1_2 : Option Addr) (c1_2 : Nat) (l1_2 : List S45) (r : Bool) (w : World) (hr0_2 : Kd.C k45 w A0_2 l0_2.length l0_2) (hc0_2 : l0_2.length ≤ c0_2) (hr1_2 : Kd.C k45 w A1_2 l1_2.length l1_2) (hc1_2 : l1_2.length ≤ c1_2) (h : outlawref25_Same.f a0_0 a0_1 l0_2 a1_0 a1_1 l1_2 = some r) :
  Calls Try.prog 21 #[.agg #[.string a0_0, .int .i64 a0_1, .slice A0_2 l0_2.length c0_2], .agg #[.string a1_0, .int .i64 a1_1, .slice A1_2 l1_2.length c1_2]] w fun e w' => e = .returned (.bool r) ∧ Below w.heap.size w w' := by
 unfold outlawref25_Same.f at h
 by_cases hh : fewCuts l0_2 ∧ l0_2.length ≤ 1000000000000 ∧ l1_2.length ≤ 1000000000000
 ·rw [if_pos hh] at h
  obtain rfl := Option.some.inj h
  exact refSame_any a0_0 a0_1 A0_2 c0_2 l0_2 a1_0 a1_1 A1_2 c1_2 l1_2 w hr0_2 hr1_2 hh.1 hh.2.1 hh.2.2
 ·rw [if_neg hh] at h
  simp at h
end Go.Proofs.YtfgibjkgiolonaaS
