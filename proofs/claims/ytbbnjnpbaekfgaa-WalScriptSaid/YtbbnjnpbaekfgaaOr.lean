/- Arguments that are slices of acts (structs of two numbers, a string, a slice of numbers), opened. -/
import Derived.Test.YtbbnjnpbaekfgaaOq
import Derived.Test.YtbbnjnpbaekfgaaEw
import Derived.Deep.Slices
import Derived.Deep.Fields
import Derived.ChangeSame
set_option linter.unusedVariables false
set_option linter.unusedSimpArgs false
namespace Go.Proofs.YtbbnjnpbaekfgaaM
open Go.RowKit Go.ChangeShapes Go.WideShapes Go.Deep
theorem list_of {α : Type} {Q : Nat → α → Prop} : ∀ n, (∀ i, i < n → ∃ x, Q i x) → ∃ l : List α, l.length = n ∧ ∀ j (h : j < l.length), Q j l[j]
  | 0, _ => ⟨[], rfl, fun j h => absurd h (by simp)⟩
  | n + 1, h => by
    obtain ⟨l, hl, hq⟩ := list_of n fun i hi => h i (by omega)
    obtain ⟨x, hx⟩ := h n (by omega)
    refine ⟨l ++ [x], by simp [hl], fun j hj => ?_⟩
    by_cases e : j < l.length
    · rw [List.getElem_append_left e]
      exact hq j e
    · have : j = n := by simp at hj; omega
      subst this
      subst hl
      simpa using hx
section
variable {H : Type} {enc : TypeId × Value → H} {W : World} {base : Nat} {spare : Nat → Bool} {held : Bool} {t e : TypeId} {v : Value} {d : DataW H} {ps : List MemPlace} {ts : List TypeId} {ds : List (DataW H)} {j : Nat}
theorem ints_inner {fuel : Nat} {v : Value} {x : DataW H × List MemPlace} (h : DataW.trod enc Try.prog W base spare held fuel 40 [v] = some x) :
    ∃ (l : List Int) (ca : Option Addr) (cc : Nat), v = .slice ca l.length cc ∧ IntsAt W (.slice ca l.length cc) l ∧ (ca = none → cc = 0) := by
  rcases open_ints Try.underlying40 Try.underlying3 (by kernel_rfl) h with ⟨hcs, _⟩ | ⟨x, len, c, zs, hcs, _, hl, _, hz, hx, hcell, _⟩
  · simp at hcs
    subst hcs
    exact ⟨[], none, 0, rfl, ⟨none, 0, rfl, fun h => absurd h (by simp)⟩, fun _ => rfl⟩
  · simp at hcs
    subst hcs
    have hl2 : len ≤ zs.length := by
      rw [hz]
      split
      · exact hl
      · exact Nat.le_refl _
    have hlen : (zs.take len).length = len := by rw [List.length_take]; omega
    refine ⟨zs.take len, some x, c, by rw [hlen], ⟨some x, c, rfl, fun h0 => ⟨x, rfl, ?_, fun k hk => ?_⟩⟩, fun h => by cases h⟩
    · have := hcell 0 (by omega)
      have hb := World.block_lt_of_cell? W _ this
      rw [add_block] at hb
      exact hb
    · rw [hlen] at hk
      rw [hcell k (by omega), List.getElem_take, List.getD_eq_getElem?_getD, List.getElem?_eq_getElem (by omega)]
      rfl
set_option maxRecDepth 100000 in
theorem open_acts_at (hsz : (DataW.weightsEach Try.prog ts ds).all (· ≤ reachBytes) = true) (ht : ts[j]? = some t) (hd : ds[j]? = some d) (hu : Try.prog.underlying t = some (.slice e)) {fs : Array Field} (he : Try.prog.underlying e = some (.struct fs))
    (hc0 : (fs.map (·.type), fs.map (·.offset), Try.prog.cellsOf e) = (#[3, 9, 40], #[0, 1, 2], 3)) (hB : Try.prog.bytesOf e = 48) {r : Reach} {b0 : Nat}
    (hv : Value.okWide Try.prog W r b0 t v) (h : DataW.Trod enc Try.prog W base spare held t v d ps) :
    ∃ (a : Option Addr) (l : List ActD) (c : Nat), v = .slice a l.length c ∧ ActsAt W a l ∧ (a = none → c = 0) ∧ l.length ≤ 140737488351232 := by
  have hc : (fs.map (·.type) = #[3, 9, 40] ∧ fs.map (·.offset) = #[0, 1, 2]) ∧ Try.prog.cellsOf e = 3 := by
    simp only [Prod.mk.injEq] at hc0
    exact ⟨⟨hc0.1, hc0.2.1⟩, hc0.2.2⟩
  clear hc0
  obtain ⟨a, len, cap, rfl⟩ := okWide_slice hu hv
  obtain ⟨fuel, hf⟩ := h
  rcases open_slice hu hf with ⟨hcs, _⟩ | ⟨x, l, c, m, n, D, Pl, hcs, _, hl, _, hm, hx, hi⟩
  · simp [Value.cells] at hcs
    obtain ⟨rfl, rfl, rfl⟩ := hcs
    exact ⟨none, [], 0, rfl, fun h => absurd h (by simp), fun _ => rfl, by simp⟩
  · simp [Value.cells] at hcs
    obtain ⟨rfl, rfl, rfl⟩ := hcs
    have hdx : d = .slice ((List.range len).map D) ((List.range (m - len)).map fun j => D (len + j)) := (Prod.mk.inj hx).1
    subst hdx
    have z := sized_slice hsz ht hd hu
    have hrb : reachBytes = 140737488351232 := rfl
    rw [hB] at z
    simp at z
    have hlm : len ≤ m := by
      rw [hm]
      split
      · exact hl
      · exact Nat.le_refl _
    obtain ⟨xb, xo, xs⟩ := x
    have each : ∀ i, i < len → ∃ y : ActD, xb < W.heap.size ∧ xs = none ∧ W.cell? ⟨xb, xo + i * 3, none⟩ = some (.int .i64 y.kind) ∧ W.cell? ⟨xb, xo + i * 3 + 1, none⟩ = some (.string y.b) ∧
        ∃ ca cc, W.cell? ⟨xb, xo + i * 3 + 2, none⟩ = some (.slice ca y.cuts.length cc) ∧ IntsAt W (.slice ca y.cuts.length cc) y.cuts ∧ (ca = none → cc = 0) := by
      intro i hil
      obtain ⟨cs, hcl, htr⟩ := hi i (by omega)
      rw [hc.2] at hcl
      obtain ⟨_, hlen4, hat⟩ := World.cells?_some hcl
      obtain ⟨ys, n', _, _, _, hyl, hfld⟩ := DataW.trod_struct he htr
      have hfs : fs.size = 3 := by
        have := congrArg Array.size hc.1.1
        simpa using this
      match cs, hlen4 with
      | [k0, k1, k2], _ =>
        have field : ∀ (q : Nat) (ty : TypeId) (kq : Value), q < 3 → (#[3, 9, 40] : Array TypeId)[q]? = some ty → (#[0, 1, 2] : Array Nat)[q]? = some q → ([k0, k1, k2].drop q).take 1 = [kq] → Try.prog.cellsOf ty = 1 → ∃ y, DataW.trod enc Try.prog W base spare held n' ty [kq] = some y := by
          intro q ty kq hq hty hoff hk h1
          have hget : fs[q]? = some (fs[q]'(by omega)) := Array.getElem?_eq_getElem (by omega)
          have e1 : (fs[q]'(by omega)).type = ty := by
            have := congrArg (fun (A : Array TypeId) => A[q]?) hc.1.1
            simp only [Array.getElem?_map, hget, hty, Option.map_some] at this
            exact Option.some.inj this
          have e2 : (fs[q]'(by omega)).offset = q := by
            have := congrArg (fun (A : Array Nat) => A[q]?) hc.1.2
            simp only [Array.getElem?_map, hget, hoff, Option.map_some] at this
            exact Option.some.inj this
          have := hfld q _ hget
          rw [e1, e2, h1, hk] at this
          exact ⟨_, this.trans (List.getElem?_eq_getElem (by omega))⟩
        obtain ⟨y0, t0⟩ := field 0 3 k0 (by omega) rfl rfl rfl (by kernel_rfl)
        obtain ⟨y1, t1⟩ := field 1 9 k1 (by omega) rfl rfl rfl (by kernel_rfl)
        obtain ⟨y2, t2⟩ := field 2 40 k2 (by omega) rfl rfl rfl (by kernel_rfl)
        obtain ⟨z0, e0, _⟩ := DataW.trod_int Try.underlying3 t0
        obtain ⟨z1, e1, _⟩ := DataW.trod_string Try.underlying9 t1
        simp at e0 e1
        subst e0 e1
        obtain ⟨lc, ca, cc, rfl, hin, hno⟩ := ints_inner t2
        have hc0 := hat 0 (by omega)
        have hc1 := hat 1 (by omega)
        have hc2 := hat 2 (by omega)
        rw [add_add] at hc0 hc1 hc2
        have hs1 : ((⟨xb, xo, xs⟩ : Addr).add (i * 3 + 1)) = ⟨xb, xo + i * 3 + 1, none⟩ := by unfold Addr.add; rw [if_neg (by omega), Nat.add_assoc]
        have hs2 : ((⟨xb, xo, xs⟩ : Addr).add (i * 3 + 2)) = ⟨xb, xo + i * 3 + 2, none⟩ := by unfold Addr.add; rw [if_neg (by omega), Nat.add_assoc]
        rw [hs1] at hc1
        rw [hs2] at hc2
        have hx0 : xs = none := by
          obtain ⟨cs2, hcl2, htr2⟩ := hi 0 (by omega)
          rw [hc.2] at hcl2
          obtain ⟨_, hl4, hat2⟩ := World.cells?_some hcl2
          have := hat2 0 (by omega)
          rw [List.getElem?_eq_getElem (by omega)] at this
          have := World.cell?_spot this
          simpa [Addr.add] using this
        subst hx0
        have hs0 : ((⟨xb, xo, none⟩ : Addr).add (i * 3 + 0)) = ⟨xb, xo + i * 3, none⟩ := by
          unfold Addr.add
          split
          · rename_i e
            rw [show i * 3 = 0 from by omega]
            rfl
          · rfl
        rw [hs0] at hc0
        exact ⟨⟨z0, z1, lc⟩, World.block_lt_of_cell? W _ hc1, rfl, hc0, hc1, ca, cc, hc2, hin, hno⟩
    obtain ⟨al, hal, hq⟩ := list_of len each
    refine ⟨some ⟨xb, xo, xs⟩, al, cap, by rw [hal], fun h0 => ?_, (fun h => by cases h), by omega⟩
    obtain ⟨h1, h2, _⟩ := hq 0 h0
    subst h2
    exact ⟨xb, xo, rfl, h1, fun j hj => (hq j hj).2.2⟩
end
end Go.Proofs.YtbbnjnpbaekfgaaM
