/- Scripts laid out cell by cell: what the chapter's example writes into. -/
import Derived.Test.YtfgibjkgiolonaaNv
set_option linter.unusedVariables false
set_option linter.unusedSimpArgs false
namespace Go.Proofs.YtfgibjkgiolonaaS
open Go.RowKit Go.Proofs.YtfgibjkgiolonaaW.PrintWords Go.Proofs.YtfgibjkgiolonaaW.PrintLast Go.Proofs.YtfgibjkgiolonaaX Go.Proofs.Ytfgibjkgiolonaa.PA Go.Proofs.YtfgibjkgiolonaaG Go.Proofs.YtfgibjkgiolonaaQ Go.Proofs.YtfgibjkgiolonaaI
theorem n_far_ {W : World} {p a : Addr} (h : a.block ≠ p.block) (u : Value) : (W.setCell p u).cell? a = W.cell? a := by
 have := Below.heap_setCell W p u a.block h
 simp [World.cell?, this]
/-- Block g holds these values from place o on. -/
def Lies (w : World) (g o : Nat) (l : List Value) : Prop := ∀ i u, l[i]? = some u → w.cell? ⟨g, o + i, none⟩ = some u
theorem Lies.below {w w1 : World} {g o : Nat} {l : List Value} (h : Lies w g o l) (hb : Below w.heap.size w w1) : Lies w1 g o l := fun i u hu => (hb.cell (World.block_lt_of_cell? w _ (h i u hu))).trans (h i u hu)
theorem Lies.far {w : World} {g o : Nat} {l : List Value} (h : Lies w g o l) {p : Addr} (hp : g ≠ p.block) (u : Value) : Lies (w.setCell p u) g o l := fun i x hx => (n_far_ (p := p) (a := ⟨g, o + i, none⟩) hp u).trans (h i x hx)
def elL (x : S45) (v : Value) : List Value := [.bool x.f0, .int .i64 x.f1.f0, .int .i64 x.f1.f1, .int .i64 x.f1.f2, .bool x.f1.f3, .string x.f1.f4, v]
theorem ints_C {w : World} {g : Nat} {l : List Int} (hl : l.length ≤ 1000) (h : Lies w g 0 (l.map (Value.int .i64))) : Kd.C (Kd.int .i64) w (some ⟨g, 0, none⟩) l.length l := by
 refine ⟨rfl, by omega, fun _ => ⟨_, rfl, fun j p hp => ⟨[.int .i64 p], rfl, rfl, fun i u hu => ?_⟩⟩⟩
 match i, hu with
 | 0, hu =>
  obtain rfl := Option.some.inj hu
  have := h j (.int .i64 p) (by rw [List.getElem?_map, hp]; rfl)
  rw [Nat.zero_add] at this
  show w.cell? (Addr.add ⟨g, 0, none⟩ (j * 1 + 0)) = _
  rw [show j * 1 + 0 = j by omega]
  unfold Addr.add
  split <;> simp_all
theorem steps_C {w : World} {g : Nat} {l : List S45} (hl : l.length ≤ 1000) (h : ∀ j p, l[j]? = some p → ∃ A c, p.f2.length ≤ c ∧ Kd.C (Kd.int .i64) w A p.f2.length p.f2 ∧ Lies w g (j * 7) (elL p (.slice A p.f2.length c))) : Kd.C k45 w (some ⟨g, 0, none⟩) l.length l := by
 refine ⟨rfl, by omega, fun _ => ⟨_, rfl, fun j p hp => ?_⟩⟩
 obtain ⟨A, c, hc, hC, hL⟩ := h j p hp
 refine ⟨elL p (.slice A p.f2.length c), rfl, k45_mk w p hc hC, fun i u hu => ?_⟩
 have := hL i u hu
 show w.cell? (Addr.add ⟨g, 0, none⟩ (j * 7 + i)) = _
 unfold Addr.add
 split <;> simp_all
theorem ints_R (W : World) (base : Nat) (l : List Int) (hl : l.length ≤ 1000) (hb : base ≤ W.heap.size) : Kd.R (Kd.int .i64) 3 (W.alloc (.cells (l.map (Value.int .i64)).toArray 3)) base (fun k => W.heap.size ≤ k) (.slice (some ⟨W.heap.size, 0, none⟩) l.length l.length) l := by
 refine ⟨fun k hk => ?_, l.map (Value.int .i64), ?_, by show (l.map (Value.int .i64)).length = l.length * 1; simp, fun j p hp => ?_⟩
 ·have : W.heap.size = k := by simpa [Value.ownBlock] using hk
  omega
 ·have h := World.ownsRow_lit (base := base) (e := 3) (size := 1) W (l.map (Value.int .i64)).toArray l.length hb (by simp [maxLen]; omega) (by simp)
  show World.ownsRow _ base 3 1 _ _ _
  simpa using h
 ·show ((l.map (Value.int .i64)).drop (j * 1)).take 1 = [Value.int .i64 p]
  rw [Nat.mul_one]
  have hj : j < l.length := (List.getElem?_eq_some_iff.1 hp).1
  rw [List.drop_eq_getElem_cons (by simpa using hj)]
  have : l[j] = p := (List.getElem?_eq_some_iff.1 hp).2
  simp [this]
/-- append of one step to a row of steps, in a plain region. -/
theorem steps_append {ops : Array Oper} {Q : Exit → Act → World → Prop} {rest : List Oper} {o : Oper} {a : Act} {w0 W : World} (base : Nat) (s x : Operand) (v : Value) (xs : List S45) (p : S45) (cs : List Value) (okp : Nat → Prop) (hgd : o.guard = none) (ho : o.op = .call { callee := .builtin .append, args := #[s, x], argTypes := #[22, 22] })
  (hs : a.eval s = v) (hx : a.eval x = .slice (some ⟨W.heap.size, 0, none⟩) 1 1) (hp : k45.M W base okp p cs) (hokp : ∀ k, okp k → some k ≠ v.ownBlock)
  (HO : Kd.S k45 45 W base (fun k => True ∧ ¬ okp k) v xs) (HB : Below base w0 W) (hbase : base ≤ W.heap.size) (hl : (xs.length + 1) * 80 ≤ 140737488355328)
  (h : ∀ v1 w1, Kd.S k45 45 w1 base (fun _ => True) v1 (xs ++ [p]) → Below base w0 w1 → W.grownBy w1 v.ownBlock → wpList Try.prog ops Q rest (a.put o.dst v1) w1) :
  wpList Try.prog ops Q (o :: rest) a (W.alloc (.cells cs.toArray 45)) := by
 obtain ⟨f, hf, hR⟩ := Kd.S_tag HO xs.length okp (fun _ hk h2 => h2.2 hk)
 refine Kd.R_append (Kd.tag f k45) base hgd s x 22 45 (.agg #[.bool false, .int .i64 0, .int .i64 0, .int .i64 0, .bool false, .string ⟨#[]⟩, .slice none 0 0]) 80 ho Try.underlying22 info45 rfl (show 0 < 7 by decide) (by decide) v xs.zipIdx (p, xs.length) cs (fun _ => True) okp hs hx (k45.M_mono (fun k hk => ⟨hk, hf k hk⟩) hp) (fun k hk => ⟨trivial, hokp k hk⟩) (fun _ _ => trivial) (Kd.R_mono hR (fun _ hk => trivial)) HB hbase (by rw [List.length_zipIdx]; exact hl) ?_
 intro v1 w1 hr hb hg _
 rw [← Kd.zip_snoc] at hr
 exact h v1 w1 ⟨f, hr⟩ hb hg
theorem n_size (w : World) (o : Obj) : (w.alloc o).heap.size = w.heap.size + 1 := by unfold World.alloc; exact Array.size_push _
theorem n_openM {w : World} {base : Nat} {ok : Nat → Prop} {x : S45} {cs : List Value} (h : k45.M w base ok x cs) : ∃ v6, cs = elL x v6 ∧ (Kd.int .i64).R 3 w base ok v6 x.f2 := by
 obtain ⟨_, _, rfl, rfl, ⟨_, _, rfl, s1, ⟨v6, rfl, g6⟩⟩⟩ := h
 obtain ⟨_, _, rfl, rfl, ⟨_, _, rfl, rfl, ⟨_, _, rfl, rfl, ⟨_, _, rfl, rfl, rfl⟩⟩⟩⟩ := s1
 exact ⟨v6, rfl, g6⟩
/-- The row of the two steps, the second's cuts in block g3. -/
def Two (cs2 : Array Value) (g3 : Nat) : Prop := ∃ (A0 : Option Addr) (c0 c3 : Nat), 2 ≤ c3 ∧ (∀ (i : Nat) (u : Value), (elL nX0 (.slice A0 0 c0))[i]? = some u → cs2[i]? = some u) ∧ ∀ (i : Nat) (u : Value), (elL nX1 (.slice (some ⟨g3, 0, none⟩) 2 c3))[i]? = some u → cs2[7 + i]? = some u
theorem two_lie {w : World} {base : Nat} {ok : Nat → Prop} {A : Option Addr} {c : Nat} (h : Kd.S k45 45 w base ok (.slice A 2 c) [nX0, nX1]) : ∃ g2 g3 cs2 cs3, A = some ⟨g2, 0, none⟩ ∧ 2 ≤ c ∧ Two cs2 g3 ∧ w.heap[g2]? = some (.cells cs2 45 (0, 0)) ∧ w.heap[g3]? = some (.cells cs3 3 (0, 0)) ∧ cs3[0]? = some (.int .i64 512) ∧ cs3[1]? = some (.int .i64 3) ∧ base ≤ g2 ∧ base ≤ g3 := by
 have hR := Kd.R_bound (Kd.S_R h)
 obtain ⟨_, hc, hC⟩ := Kd.S_reads' h
 obtain ⟨ad, rfl, _⟩ := hC.2.2 (by decide)
 obtain ⟨g2, rfl⟩ := Kd.R_head hR
 obtain ⟨d0, hd0, hM0, hL0, _⟩ := Kd.R_elem hR z45 0 (by decide) (by decide)
 obtain ⟨d1, hd1, hM1, hL1, _⟩ := Kd.R_elem hR z45 1 (by decide) (by decide)
 obtain ⟨v0, rfl, hr0⟩ := n_openM (x := nX0) hM0
 obtain ⟨v1, rfl, hr1⟩ := n_openM (x := nX1) hM1
 obtain ⟨A0, c0, rfl⟩ := Kd.R_slice hr0
 obtain ⟨A1, c3, rfl, hl1, hC1⟩ := Kd.R_reads hr1
 obtain ⟨ad1, rfl, _⟩ := hC1.2.2 (by decide)
 obtain ⟨g3, rfl⟩ := Kd.R_head hr1
 have hk := hr1.1 g3 rfl
 obtain ⟨q, hq, cells, hcells⟩ := (Kd.R_bound hr1).1 g3 rfl |>.2.2.2
 obtain rfl : q = 3 := by simpa [Kd.int, Kd.scalar] using hq
 obtain ⟨inner, hown⟩ := Kd.R_own (Kd.S_R h)
 obtain ⟨cs2, hcs2⟩ := own_typed hown g2 rfl
 have e0 := Kd.R_cell (0 : Int) hr1 0 (by decide) (by decide)
 have e1 := Kd.R_cell (0 : Int) hr1 1 (by decide) (by decide)
 refine ⟨g2, g3, cs2, cells, rfl, hc, ⟨A0, c0, c3, hl1, fun i u hu => ?_, fun i u hu => ?_⟩, hcs2, hcells, (blk_cell hcells 0).symm.trans e0.1, (blk_cell hcells 1).symm.trans e1.1, own_base hown g2 rfl, hk.1.2.1⟩
 ·have := hL0 i u hu
  rw [show (0 : Int).toNat * k45.sz + i = i by simp] at this
  exact (blk_cell hcs2 i).symm.trans this
 ·have this : w.cell? ⟨g2, 1 * 7 + i, none⟩ = some u := hL1 i u hu
  rw [show 1 * 7 + i = 7 + i by omega] at this
  exact (blk_cell hcs2 (7 + i)).symm.trans this
theorem two_C {w : World} {g2 g3 : Nat} {cs2 cs3 : Array Value} {a : Int} (b2 : w.heap[g2]? = some (.cells cs2 45 (0, 0))) (b3 : w.heap[g3]? = some (.cells cs3 3 (0, 0))) (h2 : Two cs2 g3) (h3 : cs3[0]? = some (.int .i64 a)) (h4 : cs3[1]? = some (.int .i64 3)) :
  Kd.C k45 w (some ⟨g2, 0, none⟩) 2 [nX0, ⟨true, ⟨4, 0, 2, false, ⟨#[]⟩⟩, [a, 3]⟩] := by
 obtain ⟨A0, c0, c3, hc3, hA, hB⟩ := h2
 refine steps_C (l := [nX0, ⟨true, ⟨4, 0, 2, false, ⟨#[]⟩⟩, [a, 3]⟩]) (by simp) (fun j p hp => ?_)
 match j, hp with
 | 0, hp =>
  obtain rfl := Option.some.inj hp
  refine ⟨A0, c0, Nat.zero_le _, ⟨rfl, Nat.zero_le _, fun hh => absurd hh (Nat.lt_irrefl 0)⟩, fun i u hu => ?_⟩
  rw [blk_cell b2]
  rw [show 0 * 7 + i = i by omega]
  exact hA i u hu
 | 1, hp =>
  obtain rfl := Option.some.inj hp
  refine ⟨some ⟨g3, 0, none⟩, c3, hc3, ints_C (l := [a, 3]) (by simp) (fun i u hu => ?_), fun i u hu => ?_⟩
  ·rw [blk_cell b3]
   match i, hu with
   | 0, hu => exact h3.trans hu
   | 1, hu => exact h4.trans hu
  ·rw [blk_cell b2]
   rw [show 1 * 7 + i = 7 + i by omega]
   exact hB i u hu
theorem apart_ {w : World} {g h : Nat} {a b : Array Value} {t u : TypeId} (h1 : w.heap[g]? = some (.cells a t (0, 0))) (h2 : w.heap[h]? = some (.cells b u (0, 0))) (ht : t ≠ u) : g ≠ h := by
 rintro rfl
 have := Option.some.inj (h1.symm.trans h2)
 injection this with _ e
 exact ht e
theorem one_lie {w : World} {base : Nat} {ok : Nat → Prop} {A : Option Addr} {c : Nat} (h : Kd.S k45 45 w base ok (.slice A 1 c) [nX0]) : ∃ (g2 : Nat) (cs2 : Array Value) (A0 : Option Addr) (c0 : Nat), A = some ⟨g2, 0, none⟩ ∧ 1 ≤ c ∧ w.heap[g2]? = some (.cells cs2 45 (0, 0)) ∧ (∀ (i : Nat) (u : Value), (elL nX0 (.slice A0 0 c0))[i]? = some u → cs2[i]? = some u) ∧ base ≤ g2 := by
 have hR := Kd.R_bound (Kd.S_R h)
 obtain ⟨_, hc, hC⟩ := Kd.S_reads' h
 obtain ⟨ad, rfl, _⟩ := hC.2.2 (by decide)
 obtain ⟨g2, rfl⟩ := Kd.R_head hR
 obtain ⟨d0, hd0, hM0, hL0, _⟩ := Kd.R_elem hR z45 0 (by decide) (by decide)
 obtain ⟨v0, rfl, hr0⟩ := n_openM (x := nX0) hM0
 obtain ⟨A0, c0, rfl⟩ := Kd.R_slice hr0
 obtain ⟨inner, hown⟩ := Kd.R_own (Kd.S_R h)
 obtain ⟨cs2, hcs2⟩ := own_typed hown g2 rfl
 refine ⟨g2, cs2, A0, c0, rfl, hc, hcs2, fun i u hu => ?_, own_base hown g2 rfl⟩
 have := hL0 i u hu
 rw [show (0 : Int).toNat * k45.sz + i = i by simp] at this
 exact (blk_cell hcs2 i).symm.trans this
/-- One step, its cuts in block g3. -/
theorem one_C {w : World} {g2 g3 : Nat} {cs2 : Array Value} {c : Nat} {l : List Int} (hl : l.length ≤ 1000) (hc : l.length ≤ c) (b2 : w.heap[g2]? = some (.cells cs2 45 (0, 0))) (b3 : w.heap[g3]? = some (.cells (l.map (Value.int .i64)).toArray 3 (0, 0)))
  (h2 : ∀ (i : Nat) (u : Value), (elL nX0 (.slice (some ⟨g3, 0, none⟩) l.length c))[i]? = some u → cs2[i]? = some u) : Kd.C k45 w (some ⟨g2, 0, none⟩) 1 [⟨false, ⟨6, 0, 0, false, ⟨#[]⟩⟩, l⟩] := by
 refine steps_C (l := [⟨false, ⟨6, 0, 0, false, ⟨#[]⟩⟩, l⟩]) (by simp) (fun j p hp => ?_)
 match j, hp with
 | 0, hp =>
  obtain rfl := Option.some.inj hp
  refine ⟨some ⟨g3, 0, none⟩, c, hc, ints_C hl (fun i u hu => ?_), fun i u hu => ?_⟩
  ·rw [blk_cell b3, Nat.zero_add]
   simpa using hu
  ·rw [blk_cell b2]
   rw [show 0 * 7 + i = i by omega]
   exact h2 i u hu
section
variable {P : Program} {ops : Array Oper} {Q : Exit → Act → World → Prop} {rest : List Oper} {oi : Oper} {a : Act}
/-- A row written out, in a plain region. -/
theorem li_ {W : World} (N : Tmp) (cs : Array Value) (t : TypeId) (n : Nat)
    (h : ∀ g, g = W.heap.size → ∀ w1, w1.heap[g]? = some (.cells cs t (0, 0)) → Below W.heap.size W w1 → wpList P ops Q rest (a.put oi.dst (.slice (some ⟨g, 0, none⟩) n n)) w1)
    (hgd : oi.guard = none := by rfl) (hd : oi.dst = some N := by rfl) (hrun : (execOp a.eval oi).run P W = .ok (.value (.slice (some ⟨W.heap.size, 0, none⟩) n n)) (W.alloc (.cells cs t (0, 0))) := by first | (go_simp; done) | (go_simp; rfl)) : wpList P ops Q (oi :: rest) a W :=
  Kd.event_run hgd hrun (h _ rfl _ (blk_new W _) (below_alloc (Below.refl _ _) _))
end
theorem put_el {cs : Array Value} {v0 v : Value} (h : ∀ (i : Nat) (u : Value), (elL nX0 v0)[i]? = some u → cs[i]? = some u) : ∀ (i : Nat) (u : Value), (elL nX0 v)[i]? = some u → (cs.setIfInBounds 6 v)[i]? = some u := by
 intro i u hu
 have h6 : 6 < cs.size := (Array.getElem?_eq_some_iff.1 (h 6 v0 rfl)).1
 by_cases hi : i = 6
 ·subst hi
  obtain rfl := Option.some.inj (show some v = some u from hu)
  simp [h6]
 ·rw [Array.getElem?_setIfInBounds_ne (by omega)]
  refine h i u ?_
  match i, hi, hu with
  | 0, _, hu => exact hu
  | 1, _, hu => exact hu
  | 2, _, hu => exact hu
  | 3, _, hu => exact hu
  | 4, _, hu => exact hu
  | 5, _, hu => exact hu
  | 6, hi, _ => exact absurd rfl hi
  | k + 7, _, hu => exact hu
theorem put0 {cs : Array Value} {v0 v : Value} (h : cs[0]? = some v0) : (cs.setIfInBounds 0 v)[0]? = some v := by
 have h6 : 0 < cs.size := (Array.getElem?_eq_some_iff.1 h).1
 simp [h6]
theorem put1 {cs : Array Value} {v0 v : Value} (h : cs[1]? = some v0) : (cs.setIfInBounds 0 v)[1]? = some v0 := by rw [Array.getElem?_setIfInBounds_ne (by decide)]; exact h
theorem read_5 {s : ByteArray} {x : Int} (h : (readS s).2.2.2 = x) : ∃ r1 r2 r3, script_Read.f s = some (r1, r2, r3, x) := ⟨_, _, _, congrArg some (Prod.ext rfl (Prod.ext rfl (Prod.ext rfl h)))⟩
end Go.Proofs.YtfgibjkgiolonaaS
