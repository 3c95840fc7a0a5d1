/- append of a row of whole numbers behind one of the walk's own, as a step of a drawn region; rising rows of numbers; over. -/
import Derived.Test.YtlmhgnkkdjpkcaaDoorRs
import Derived.Test.YtlmhgnkkdjpkcaaDoorB5
import Derived.Test.YtlmhgnkkdjpkcaaDoorPAx12
set_option linter.unusedVariables false
set_option linter.unusedSimpArgs false
namespace Go.Proofs.YtlmhgnkkdjpkcaaDoorG
open Go.RowKit Go.Proofs.YtlmhgnkkdjpkcaaDoor.PA Go.Proofs.YtlmhgnkkdjpkcaaDoorW.PrintWords Go.Proofs.YtlmhgnkkdjpkcaaDoorM
def OwnI (w : World) (B : Nat) (v : Value) (l : List Int) : Prop := w.ownsRow B 2 1 v l.length (l.map (Value.int .i64))
theorem oi_cells {w : World} {B g : Nat} {l : List Int} {n cap : Nat} (h : OwnI w B (.slice (some ⟨g, 0, none⟩) n cap) l) : ∀ j v, (l.map (Value.int .i64))[j]? = some v → w.cell? ⟨g, 0 + j, none⟩ = some v := by
 intro j v hj
 have := h.cells (g := g) rfl j v hj
 rw [addr_add] at this
 exact this
theorem oi_alloc {w : World} {B : Nat} {v : Value} {l : List Int} (h : OwnI w B v l) (o : Obj) : OwnI (w.alloc o) B v l := World.ownsRow.alloc h o
theorem oi_drewN {w : World} {B : Nat} {v : Value} {l : List Int} (h : OwnI w B v l) (q : Nat) : OwnI (w.drewN q) B v l := h
theorem oi_read {w : World} {B : Nat} {v : Value} {l : List Int} (h : OwnI w B v l) {j : Nat} (hj : j < l.length) : ∃ g cap, v = .slice (some ⟨g, 0, none⟩) l.length cap ∧ w.cell? ⟨g, j, none⟩ = some (.int .i64 l[j]) := by
 rcases h.2 with ⟨_, h0⟩ | ⟨g, cap, cur, hv, hb, hg, hc⟩
 ·omega
 ·refine ⟨g, cap, hv, ?_⟩
  have := oi_cells (hv ▸ h) j (.int .i64 l[j]) (by rw [List.getElem?_map, List.getElem?_eq_getElem hj]; rfl)
  rw [Nat.zero_add] at this; exact this
theorem oi_form {w : World} {B : Nat} {v : Value} {l : List Int} (h : OwnI w B v l) : ∃ a cap, v = .slice a l.length cap := by
 rcases h.2 with ⟨hv, h0⟩ | ⟨g, cap, cur, hv, _⟩
 ·exact ⟨none, 0, by rw [hv, h0]⟩
 ·exact ⟨_, cap, hv⟩
theorem i_append_nil_run (w : World) (a : Option Addr) (n c : Nat) (hn : n ≤ c) :
  (Builtin.append_ #[41, 41] 41 #[.slice a n c, .slice none 0 0]).run Tryd.prog w = .ok (.slice a n c) w := by
 unfold Builtin.append_
 go_simp
 cases a <;> rfl
/-- A row of words, to be read. -/
def SrcI (w : World) (sv : Value) (l : List Int) : Prop :=
 (sv = .slice none 0 0 ∧ l = []) ∨ ∃ ad c, sv = .slice (some ad) l.length c ∧ ∀ (j : Nat) u, (l.map (Value.int .i64))[j]? = some u → w.cell? (ad.add j) = some u
theorem i_append_run (w : World) (B : Nat) (v sv : Value) (l1 l2 : List Int) (h1 : OwnI w B v l1) (h2 : SrcI w sv l2) (hB : B ≤ w.heap.size) (hl : l1.length + l2.length ≤ 1000000001) :
  ∃ v' w', (Builtin.append_ #[41, 41] 41 #[v, sv]).run Tryd.prog w = .ok v' w' ∧ OwnI w' B v' (l1 ++ l2) ∧ w.grownBy w' v.ownBlock ∧ (v'.ownBlock = v.ownBlock ∨ v'.ownBlock = some w.heap.size) := by
 obtain ⟨i0, hi, hz0, hz1, hz2⟩ := info_parts info2
 rcases h2 with ⟨rfl, rfl⟩ | ⟨ad, c, rfl, hc⟩
 ·obtain ⟨a, cap, rfl, hn⟩ : ∃ a cap, v = .slice a l1.length cap ∧ l1.length ≤ cap := by
   rcases h1.2 with ⟨hv, h0⟩ | ⟨g, cap, cur, hv, _, _, hn, _⟩
   ·exact ⟨none, 0, by rw [hv, h0], by omega⟩
   ·exact ⟨_, cap, hv, hn⟩
  exact ⟨_, w, i_append_nil_run w a _ cap hn, by rw [List.append_nil]; exact h1, ⟨rfl, rfl, rfl, Nat.le_refl _, fun _ _ _ => rfl⟩, .inl rfl⟩
 ·obtain ⟨v', w', hr, ho, hg, _, hat⟩ := run_append_own_at (P := Tryd.prog) w B 41 41 2 i0 (.int .i64 0) 1 8 Tryd.underlying41 hi hz0 hz1 hz2 rfl (by decide) v l1.length (l1.map (Value.int .i64)) h1 ad l2.length c (l2.map (Value.int .i64))
   (by simp) hc (fun u hu => by obtain ⟨x, _, rfl⟩ := List.mem_map.1 hu; rfl) (by unfold maxLen; omega) (by omega) hB
  refine ⟨v', w', hr, ?_, hg, hat⟩
  show w'.ownsRow B 2 1 v' (l1 ++ l2).length ((l1 ++ l2).map (Value.int .i64))
  rw [List.length_append, List.map_append]; exact ho
theorem i_app_step {ops : Array Oper} {o : Oper} {a : Act} {K : Act → World → Prop} {Q : Exit → Act → World → Prop} {E : Prop} {w : World} (hgd : o.guard = none) (s x : Operand)
  (ho : o.op = .call { callee := .builtin .append, args := #[s, x], argTypes := #[41, 41] }) (hty : o.type = 41) (B : Nat) (v sv : Value) (l1 l2 : List Int) (hs : a.eval s = v) (hx : a.eval x = sv)
  (h1 : OwnI w B v l1) (h2 : SrcI w sv l2) (hB : B ≤ w.heap.size) (hl : l1.length + l2.length ≤ 1000000001)
  (h : ∀ v' w', OwnI w' B v' (l1 ++ l2) → w.grownBy w' v.ownBlock → (v'.ownBlock = v.ownBlock ∨ v'.ownBlock = some w.heap.size) → K (a.put o.dst v') w') :
  if Region.wanted o (yielded ops a.tmps) = true then Oper.wp Tryd.prog o a w K Q else E := by
 have hw : Region.wanted o (yielded ops a.tmps) = true := by simp [Region.wanted, hgd]
 rw [if_pos hw]
 obtain ⟨v', w', hr, h3, h4, h5⟩ := i_append_run w B v sv l1 l2 h1 h2 hB hl
 unfold Oper.wp execOp
 simp only [ho, hty, resolve, invoke, builtin, Sem.run_bind, Sem.run_pure, Result.andThen_ok, List.map_toArray, List.map_cons, List.map_nil, hs, hx, hr]
 exact h v' w' h3 h4 h5
theorem i_own_grown {w w' : World} {B : Nat} {v v0 : Value} {l l0 : List Int} (h : OwnI w B v l) (hg : w.grownBy w' v0.ownBlock) (hne : v.ownBlock = none ∨ v.ownBlock ≠ v0.ownBlock) : OwnI w' B v l := World.ownsRow.kept h hg hne
theorem i_cell_al {w : World} {p : Addr} {v : Value} (h : w.cell? p = some v) (o : Obj) : (w.alloc o).cell? p = some v :=
 (((Below.refl w.heap.size w).alloc (Nat.le_refl _) o).cell (World.block_lt_of_cell? w _ h)).trans h
theorem i_own_empty (w : World) (B : Nat) (hB : B ≤ w.heap.size) : OwnI (w.alloc (.cells #[] 2)) B (.slice (some ⟨w.heap.size, 0, none⟩) 0 0) [] := by
 exact World.ownsRow_made w #[] 0 hB (by unfold maxLen; omega) (by simp)
theorem i_src_front {w : World} {B n cap : Nat} {oa : Option Addr} {out : List Int} (h : OwnI w B (.slice oa n cap) out) (p : Nat) (hp : p ≤ out.length) : SrcI w (.slice oa p cap) (out.take p) := by
 rcases h.2 with ⟨hv, h0⟩ | ⟨g, cap', cur, hv, hb, hg, hc⟩
 ·injection hv with ha hn hc
  subst ha hc
  obtain rfl : p = 0 := by omega
  exact .inl ⟨rfl, rfl⟩
 ·injection hv with ha hn hc'
  subst ha
  refine .inr ⟨⟨g, 0, none⟩, cap, ?_, ?_⟩
  ·rw [List.length_take, Nat.min_eq_left hp]
  ·intro j u hu
   rw [List.map_take, List.getElem?_take] at hu
   split at hu
   ·have := oi_cells h j u hu
    rw [addr_add]; exact this
   ·cases hu
theorem i_src_back {w : World} {B n cap : Nat} {oa : Option Addr} {out : List Int} (h : OwnI w B (.slice oa n cap) out) (hn' : n = out.length) (p : Nat) (hp : p ≤ out.length) :
  SrcI w (.slice (if cap = p then oa else oa.map (fun a => a.add p)) (n - p) (cap - p)) (out.drop p) := by
 rcases h.2 with ⟨hv, h0⟩ | ⟨g, cap', cur, hv, hb, hg, hc⟩
 ·injection hv with ha hn hc
  subst ha hc hn
  obtain rfl : p = 0 := by omega
  exact .inl ⟨rfl, List.eq_nil_of_length_eq_zero (by rw [List.length_drop]; omega)⟩
 ·injection hv with ha hn hc'
  subst ha
  by_cases hcp : cap = p
  ·refine .inr ⟨⟨g, 0, none⟩, cap - p, ?_, ?_⟩
   ·rw [if_pos hcp, List.length_drop, hn']
   ·have hlc : out.length ≤ cap := by have := hc.1; omega
    intro j u hu
    rw [List.drop_eq_nil_of_le (by omega)] at hu
    simp at hu
  ·refine .inr ⟨⟨g, p, none⟩, cap - p, ?_, ?_⟩
   ·rw [if_neg hcp, List.length_drop, hn', Option.map_some, addr_add, Nat.zero_add]
   ·intro j u hu
    rw [List.map_drop, List.getElem?_drop] at hu
    have := oi_cells h (p + j) u hu
    rw [addr_add]; rw [Nat.zero_add] at this; exact this
theorem i_own_far {w : World} {B k n cap : Nat} {v : Value} {out : List Int} (h : OwnI w B v out) (hk : w.heap.size ≤ k) : v.ownBlock = none ∨ v.ownBlock ≠ (Value.slice (some ⟨k, 0, none⟩) n cap).ownBlock := by
 rcases h.2 with ⟨hv, _⟩ | ⟨g, cap', cur, hv, _, hg, _⟩
 ·left; rw [hv]; rfl
 ·right; rw [hv]
  have : g < w.heap.size := (Array.getElem?_eq_some_iff.1 hg).1
  simp [Value.ownBlock]; omega
theorem i_own_empty1 (w : World) (o : Obj) (B : Nat) (hB : B ≤ w.heap.size) : OwnI ((w.alloc o).alloc (.cells #[] 2)) B (.slice (some ⟨w.heap.size + 1, 0, none⟩) 0 0) [] := by
 have h := i_own_empty (w.alloc o) B (by rw [World.size_alloc]; omega)
 rw [World.size_alloc] at h; exact h
theorem i_own_drew' {w : World} {B : Nat} {v : Value} {l : List Int} (h : OwnI w B v l) : OwnI w.drew B v l := h
theorem i_src_drew {w : World} {v : Value} {l : List Int} (h : SrcI w v l) : SrcI w.drew v l := h
theorem i_own_emptyk (w : World) (k B : Nat) (hk : w.heap.size = k) (hB : B ≤ k) : OwnI (w.alloc (.cells #[] 2)) B (.slice (some ⟨k, 0, none⟩) 0 0) [] := by subst hk; exact i_own_empty w B hB
theorem i_cell_drew {w : World} {p : Addr} {v : Value} (h : w.cell? p = some v) : w.drew.cell? p = some v := h
theorem i_cell_grown {W w' : World} {p : Addr} {v : Value} {k n cap : Nat} (h : W.cell? p = some v) (g : W.grownBy w' (Value.slice (some ⟨k, 0, none⟩) n cap).ownBlock) (hk : p.block < k) : w'.cell? p = some v :=
 (g.cell_far p (World.block_lt_of_cell? W _ h) (by simp [Value.ownBlock]; omega)).trans h
/-- The state between the makings and appends of Rising: the row that was, the new one, the word. -/
structure St8 (w wc W : World) (B n cap : Nat) (oa : Option Addr) (out : List Int) (v : Value) (l : List Int) (p : Addr) (x : Int) : Prop where
 o : OwnI W B (.slice oa n cap) out
 vv : OwnI W B v l
 far : ∀ k, v.ownBlock = some k → wc.heap.size ≤ k
 b : Below B w W
 sz : wc.heap.size ≤ W.heap.size
 c : W.cell? p = some (.int .i64 x)
section
variable {w wc W W' : World} {B n cap : Nat} {oa : Option Addr} {out : List Int} {v v' : Value} {l l' : List Int} {p : Addr} {x : Int}
theorem St8.alloc (h : St8 w wc W B n cap oa out v l p x) (hB : B ≤ wc.heap.size) (o : Obj) : St8 w wc (W.alloc o) B n cap oa out v l p x :=
 ⟨oi_alloc h.o o, oi_alloc h.vv o, h.far, h.b.alloc (Nat.le_trans hB h.sz) o, by rw [World.size_alloc]; have := h.sz; omega, i_cell_al h.c o⟩
theorem St8.new (h : St8 w wc W B n cap oa out v l p x) (hB : B ≤ wc.heap.size) : St8 w wc (W.alloc (.cells #[] 2)) B n cap oa out (.slice (some ⟨W.heap.size, 0, none⟩) 0 0) [] p x :=
 ⟨oi_alloc h.o _, i_own_empty W B (Nat.le_trans hB h.sz), fun k hk => by simp [Value.ownBlock] at hk; have := h.sz; omega, h.b.alloc (Nat.le_trans hB h.sz) _, by rw [World.size_alloc]; have := h.sz; omega, i_cell_al h.c _⟩
theorem St8.app (h : St8 w wc W B n cap oa out v l p x) (hB : B ≤ wc.heap.size) (hlt : ∀ k, (Value.slice oa n cap).ownBlock = some k → k < wc.heap.size) (hp : p.block < wc.heap.size)
  (ho : OwnI W' B v' l') (g : W.grownBy W' v.ownBlock) (a : v'.ownBlock = v.ownBlock ∨ v'.ownBlock = some W.heap.size) : St8 w wc W' B n cap oa out v' l' p x := by
 refine ⟨i_own_grown (l0 := []) h.o g ?_, ho, ?_, h.b.grown g (Nat.le_trans hB h.sz) fun k hk => Nat.le_trans hB (h.far k hk), Nat.le_trans h.sz g.size, ?_⟩
 ·cases e : (Value.slice oa n cap).ownBlock with
  | none => exact .inl rfl
  | some k =>
   right
   intro e2
   have h1 := hlt k e
   have h2 := h.far k e2.symm
   omega
 ·intro k hk
  rcases a with a | a
  ·exact h.far k (a ▸ hk)
  ·rw [a] at hk
   cases hk
   exact h.sz
 ·refine (g.cell_far p (World.block_lt_of_cell? W _ h.c) ?_).trans h.c
  intro e
  have := h.far _ e.symm
  omega
theorem i_src_one {b : Nat} (h : W.cell? ⟨b, 0, none⟩ = some (.int .i64 x)) : SrcI W (.slice (some ⟨b, 0, none⟩) 1 1) [x] := by
 refine .inr ⟨⟨b, 0, none⟩, 1, rfl, fun j u hu => ?_⟩
 cases j with
 | zero =>
  cases hu
  rw [addr_add]
  exact h
 | succ j => simp at hu
theorem i_cell_new (W : World) (x : Int) : (W.alloc (.cells #[.int .i64 x] 2)).cell? ⟨W.heap.size, 0, none⟩ = some (.int .i64 x) := (Blk.new W [.int .i64 x] 2).cell 0
theorem i_cell_app {b : Nat} (h : W.cell? ⟨b, 0, none⟩ = some (.int .i64 x)) (g : W.grownBy W' v.ownBlock) (hne : v.ownBlock ≠ some b) : W'.cell? ⟨b, 0, none⟩ = some (.int .i64 x) :=
 (g.cell_far ⟨b, 0, none⟩ (World.block_lt_of_cell? W _ h) (fun e => hne e.symm)).trans h
end
def posI (x : Int) (l : List Int) : Nat := (l.takeWhile fun y => decide (y < x)).length
def hasI (x : Int) (l : List Int) : Bool := decide (l[posI x l]? = some x)
theorem posI_le (x : Int) (l : List Int) : posI x l ≤ l.length := (List.takeWhile_sublist _).length_le
theorem posI_cons (x y : Int) (l : List Int) : posI x (y :: l) = if y < x then posI x l + 1 else 0 := by
 unfold posI
 rw [List.takeWhile_cons]
 by_cases h : y < x
 ·simp [h]
 ·simp [h]
theorem posI_low {x : Int} : ∀ {l : List Int} {t : Nat} (ht : t < posI x l) (hl : t < l.length), l[t] < x := by
 intro l
 induction l with
 | nil => intro t ht hl; simp at hl
 | cons y l ih =>
  intro t ht hl
  rw [posI_cons] at ht
  by_cases h : y < x
  ·rw [if_pos h] at ht
   cases t with
   | zero => exact h
   | succ t => exact ih (by omega) (by simpa using hl)
  ·rw [if_neg h] at ht; omega
theorem posI_at {x : Int} : ∀ {l : List Int} (hl : posI x l < l.length), ¬ l[posI x l] < x := by
 intro l
 induction l with
 | nil => intro hl; simp at hl
 | cons y l ih =>
  intro hl
  by_cases h : y < x
  ·have e : posI x (y :: l) = posI x l + 1 := by rw [posI_cons, if_pos h]
   have hl2 : posI x l < l.length := by rw [e] at hl; simpa using hl
   have := ih hl2
   simp only [e, List.getElem_cons_succ]
   exact this
  ·have e : posI x (y :: l) = 0 := by rw [posI_cons, if_neg h]
   simp only [e, List.getElem_cons_zero]
   exact h
/-- Inserting, by the place. -/
theorem insR_pos (x : Int) : ∀ l : List Int, insR x l = if hasI x l = true then l else l.take (posI x l) ++ x :: l.drop (posI x l)
 | [] => by simp [insR, hasI, posI]
 | y :: l => by
  have ih := insR_pos x l
  unfold insR
  by_cases h : y < x
  ·have e : posI x (y :: l) = posI x l + 1 := by rw [posI_cons, if_pos h]
   have eh : hasI x (y :: l) = hasI x l := by unfold hasI; rw [e, List.getElem?_cons_succ]
   rw [if_neg (by omega), if_neg (by omega), ih, e, eh]
   split <;> simp
  ·have e : posI x (y :: l) = 0 := by rw [posI_cons, if_neg h]
   by_cases h2 : x = y
   ·subst h2
    rw [if_neg (by omega), if_pos rfl, if_pos (by unfold hasI; rw [e]; simp)]
   ·rw [if_pos (by omega), if_neg (by unfold hasI; rw [e]; simp; omega), e]
    rfl
theorem insR_len (x : Int) (l : List Int) : (insR x l).length ≤ l.length + 1 := by
 rw [insR_pos]
 split
 ·omega
 ·have := posI_le x l
  rw [List.length_append, List.length_take, List.length_cons, List.length_drop]
  omega
theorem ends_val (a : Int) : outlawref23_ends.f a = some (endedB a) := by
 unfold outlawref23_ends.f endedB
 by_cases h5 : a = 5
 ·subst h5; rfl
 ·rw [if_neg h5]
  by_cases h7 : a = 7
  ·subst h7; rfl
  ·rw [if_neg h7, beq_eq_false_iff_ne.2 h5, beq_eq_false_iff_ne.2 h7]
   rfl
theorem ends_any (a : Int) (w : World) : Calls Tryd.prog 61 #[.int .i64 a] w fun e w' => e = .returned (.bool (endedB a)) ∧ ∃ q, w' = w.drewN q := by
 refine (outlawref23_ends.calls a _ w (ends_val a)).mono ?_
 rintro e w' ⟨rfl, h⟩
 exact ⟨rfl, h.out⟩
end Go.Proofs.YtlmhgnkkdjpkcaaDoorG
