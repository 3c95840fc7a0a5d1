/- append of a row of words behind one of the walk's own, as a step of a drawn region. -/
import Derived.Test.YtlmhgnkkdjpkcaaDoorP1
set_option linter.unusedVariables false
namespace Go.Proofs.YtlmhgnkkdjpkcaaDoorG
open Go.RowKit Go.Proofs.YtlmhgnkkdjpkcaaDoor.PA Go.Proofs.YtlmhgnkkdjpkcaaDoorW.PrintWords Go.Proofs.YtlmhgnkkdjpkcaaDoorM
theorem append_nil_run (w : World) (a : Option Addr) (n c : Nat) (hn : n ≤ c) :
  (Builtin.append_ #[35, 35] 35 #[.slice a n c, .slice none 0 0]).run Tryd.prog w = .ok (.slice a n c) w := by
 unfold Builtin.append_
 go_simp
 cases a <;> rfl
/-- A row of words, to be read. -/
def SrcS (w : World) (sv : Value) (l : List ByteArray) : Prop :=
 (sv = .slice none 0 0 ∧ l = []) ∨ ∃ ad c, sv = .slice (some ad) l.length c ∧ ∀ (j : Nat) u, (l.map Value.string)[j]? = some u → w.cell? (ad.add j) = some u
theorem infoStr : (Tryd.prog.info? 9).map (fun i => (i.zero, i.size, i.bytes)) = some (some (.string ⟨#[]⟩), 1, 16) := by kernel_rfl
theorem append_run (w : World) (B : Nat) (v sv : Value) (l1 l2 : List ByteArray) (h1 : OwnS w B v l1) (h2 : SrcS w sv l2) (hB : B ≤ w.heap.size) (hl : l1.length + l2.length ≤ 1000000001) :
  ∃ v' w', (Builtin.append_ #[35, 35] 35 #[v, sv]).run Tryd.prog w = .ok v' w' ∧ OwnS w' B v' (l1 ++ l2) ∧ w.grownBy w' v.ownBlock ∧ (v'.ownBlock = v.ownBlock ∨ v'.ownBlock = some w.heap.size) := by
 obtain ⟨i0, hi, hz0, hz1, hz2⟩ := info_parts infoStr
 rcases h2 with ⟨rfl, rfl⟩ | ⟨ad, c, rfl, hc⟩
 ·obtain ⟨a, cap, rfl, hn⟩ : ∃ a cap, v = .slice a l1.length cap ∧ l1.length ≤ cap := by
   rcases h1.2 with ⟨hv, h0⟩ | ⟨g, cap, cur, hv, _, _, hn, _⟩
   ·exact ⟨none, 0, by rw [hv, h0], by omega⟩
   ·exact ⟨_, cap, hv, hn⟩
  exact ⟨_, w, append_nil_run w a _ cap hn, by rw [List.append_nil]; exact h1, ⟨rfl, rfl, rfl, Nat.le_refl _, fun _ _ _ => rfl⟩, .inl rfl⟩
 ·obtain ⟨v', w', hr, ho, hg, _, hat⟩ := run_append_own_at (P := Tryd.prog) w B 35 35 9 i0 (.string ⟨#[]⟩) 1 16 Tryd.underlying35 hi hz0 hz1 hz2 rfl (by decide) v l1.length (l1.map Value.string) h1 ad l2.length c (l2.map Value.string)
   (by simp) hc (fun u hu => by obtain ⟨x, _, rfl⟩ := List.mem_map.1 hu; rfl) (by unfold maxLen; omega) (by omega) hB
  refine ⟨v', w', hr, ?_, hg, hat⟩
  show w'.ownsRow B 9 1 v' (l1 ++ l2).length ((l1 ++ l2).map Value.string)
  rw [List.length_append, List.map_append]; exact ho
theorem app_step {ops : Array Oper} {o : Oper} {a : Act} {K : Act → World → Prop} {Q : Exit → Act → World → Prop} {E : Prop} {w : World} (hgd : o.guard = none) (s x : Operand)
  (ho : o.op = .call { callee := .builtin .append, args := #[s, x], argTypes := #[35, 35] }) (hty : o.type = 35) (B : Nat) (v sv : Value) (l1 l2 : List ByteArray) (hs : a.eval s = v) (hx : a.eval x = sv)
  (h1 : OwnS w B v l1) (h2 : SrcS w sv l2) (hB : B ≤ w.heap.size) (hl : l1.length + l2.length ≤ 1000000001)
  (h : ∀ v' w', OwnS w' B v' (l1 ++ l2) → w.grownBy w' v.ownBlock → (v'.ownBlock = v.ownBlock ∨ v'.ownBlock = some w.heap.size) → K (a.put o.dst v') w') :
  if Region.wanted o (yielded ops a.tmps) = true then Oper.wp Tryd.prog o a w K Q else E := by
 have hw : Region.wanted o (yielded ops a.tmps) = true := by simp [Region.wanted, hgd]
 rw [if_pos hw]
 obtain ⟨v', w', hr, h3, h4, h5⟩ := append_run w B v sv l1 l2 h1 h2 hB hl
 unfold Oper.wp execOp
 simp only [ho, hty, resolve, invoke, builtin, Sem.run_bind, Sem.run_pure, Result.andThen_ok, List.map_toArray, List.map_cons, List.map_nil, hs, hx, hr]
 exact h v' w' h3 h4 h5
theorem own_grown {w w' : World} {B : Nat} {v v0 : Value} {l l0 : List ByteArray} (h : OwnS w B v l) (hg : w.grownBy w' v0.ownBlock) (hne : v.ownBlock = none ∨ v.ownBlock ≠ v0.ownBlock) : OwnS w' B v l := World.ownsRow.kept h hg hne
theorem cell_al {w : World} {p : Addr} {v : Value} (h : w.cell? p = some v) (o : Obj) : (w.alloc o).cell? p = some v :=
 (((Below.refl w.heap.size w).alloc (Nat.le_refl _) o).cell (World.block_lt_of_cell? w _ h)).trans h
theorem own_empty (w : World) (B : Nat) (hB : B ≤ w.heap.size) : OwnS (w.alloc (.cells #[] 9)) B (.slice (some ⟨w.heap.size, 0, none⟩) 0 0) [] := by
 have := own_mk' (w := w.alloc (.cells #[] 9)) (B := B) (g := w.heap.size) (cap := 0) (n := 0) (l := []) (r := []) rfl (Blk.new w [] 9) rfl (by decide) hB
 exact this
theorem src_front {w : World} {B n cap : Nat} {oa : Option Addr} {out : List ByteArray} (h : OwnS w B (.slice oa n cap) out) (p : Nat) (hp : p ≤ out.length) : SrcS w (.slice oa p cap) (out.take p) := by
 rcases h.2 with ⟨hv, h0⟩ | ⟨g, cap', cur, hv, hb, hg, hc⟩
 ·injection hv with ha hn hc
  subst ha hc
  obtain rfl : p = 0 := by omega
  exact .inl ⟨rfl, rfl⟩
 ·injection hv with ha hn hc'
  subst ha
  refine .inr ⟨⟨g, 0, none⟩, cap, ?_, ?_⟩
  ·rw [List.length_take, Nat.min_eq_left hp]
  ·intro j u hu
   rw [List.map_take, List.getElem?_take] at hu
   split at hu
   ·have := own_cells h j u hu
    rw [addr_add]; exact this
   ·cases hu
theorem src_back {w : World} {B n cap : Nat} {oa : Option Addr} {out : List ByteArray} (h : OwnS w B (.slice oa n cap) out) (hn' : n = out.length) (p : Nat) (hp : p ≤ out.length) :
  SrcS w (.slice (if cap = p then oa else oa.map (fun a => a.add p)) (n - p) (cap - p)) (out.drop p) := by
 rcases h.2 with ⟨hv, h0⟩ | ⟨g, cap', cur, hv, hb, hg, hc⟩
 ·injection hv with ha hn hc
  subst ha hc hn
  obtain rfl : p = 0 := by omega
  exact .inl ⟨rfl, List.eq_nil_of_length_eq_zero (by rw [List.length_drop]; omega)⟩
 ·injection hv with ha hn hc'
  subst ha
  by_cases hcp : cap = p
  ·refine .inr ⟨⟨g, 0, none⟩, cap - p, ?_, ?_⟩
   ·rw [if_pos hcp, List.length_drop, hn']
   ·have hlc : out.length ≤ cap := by have := hc.1; omega
    intro j u hu
    rw [List.drop_eq_nil_of_le (by omega)] at hu
    simp at hu
  ·refine .inr ⟨⟨g, p, none⟩, cap - p, ?_, ?_⟩
   ·rw [if_neg hcp, List.length_drop, hn', Option.map_some, addr_add, Nat.zero_add]
   ·intro j u hu
    rw [List.map_drop, List.getElem?_drop] at hu
    have := own_cells h (p + j) u hu
    rw [addr_add]; rw [Nat.zero_add] at this; exact this
theorem own_far {w : World} {B k n cap : Nat} {v : Value} {out : List ByteArray} (h : OwnS w B v out) (hk : w.heap.size ≤ k) : v.ownBlock = none ∨ v.ownBlock ≠ (Value.slice (some ⟨k, 0, none⟩) n cap).ownBlock := by
 rcases h.2 with ⟨hv, _⟩ | ⟨g, cap', cur, hv, _, hg, _⟩
 ·left; rw [hv]; rfl
 ·right; rw [hv]
  have : g < w.heap.size := (Array.getElem?_eq_some_iff.1 hg).1
  simp [Value.ownBlock]; omega
theorem own_empty1 (w : World) (o : Obj) (B : Nat) (hB : B ≤ w.heap.size) : OwnS ((w.alloc o).alloc (.cells #[] 9)) B (.slice (some ⟨w.heap.size + 1, 0, none⟩) 0 0) [] := by
 have h := own_empty (w.alloc o) B (by rw [World.size_alloc]; omega)
 rw [World.size_alloc] at h; exact h
theorem own_drew' {w : World} {B : Nat} {v : Value} {l : List ByteArray} (h : OwnS w B v l) : OwnS w.drew B v l := h
theorem src_drew {w : World} {v : Value} {l : List ByteArray} (h : SrcS w v l) : SrcS w.drew v l := h
theorem own_emptyk (w : World) (k B : Nat) (hk : w.heap.size = k) (hB : B ≤ k) : OwnS (w.alloc (.cells #[] 9)) B (.slice (some ⟨k, 0, none⟩) 0 0) [] := by subst hk; exact own_empty w B hB
theorem cell_drew {w : World} {p : Addr} {v : Value} (h : w.cell? p = some v) : w.drew.cell? p = some v := h
theorem cell_grown {W w' : World} {p : Addr} {v : Value} {k n cap : Nat} (h : W.cell? p = some v) (g : W.grownBy w' (Value.slice (some ⟨k, 0, none⟩) n cap).ownBlock) (hk : p.block < k) : w'.cell? p = some v :=
 (g.cell_far p (World.block_lt_of_cell? W _ h) (by simp [Value.ownBlock]; omega)).trans h
end Go.Proofs.YtlmhgnkkdjpkcaaDoorG
