/- What DiskCrash does besides: lists of strings and of numbers that came in, bytes of strings copied and appended. -/
import Derived.Test.YthienjmkagediaaN3
import Derived.Lib.AppendStr
import Derived.Laws.AppendOwnNone
set_option linter.unusedVariables false
set_option linter.unusedSimpArgs false
namespace Go.Proofs.YthienjmkagediaaM
open Go.RowKit
/-- The strings that a slice of them leads to. -/
def StrsAt (w : World) (a : Option Addr) (l : List ByteArray) : Prop := 0 < l.length → ∃ ad, a = some ad ∧ ad.block < w.heap.size ∧ ∀ j (h : j < l.length), w.cell? (ad.add j) = some (.string l[j])
theorem StrsAt.below {w w' : World} {a : Option Addr} {l : List ByteArray} {B : Nat} (h : StrsAt w a l) (hb : Below B w w') (hB : w.heap.size ≤ B) : StrsAt w' a l := fun h0 => by
  obtain ⟨ad, e, hl, hc⟩ := h h0
  exact ⟨ad, e, Nat.lt_of_lt_of_le hl hb.size, fun j hj => by rw [hb.cell (p := ad.add j) (by rw [add_block]; omega)]; exact hc j hj⟩
theorem IntsAt.below {w w' : World} {v : Value} {l : List Int} {B : Nat} (h : IntsAt w v l) (hb : Below B w w') (hB : w.heap.size ≤ B) : IntsAt w' v l := by
  obtain ⟨a, cap, e, hh⟩ := h
  refine ⟨a, cap, e, fun h0 => ?_⟩
  obtain ⟨ad, e, hl, hc⟩ := hh h0
  exact ⟨ad, e, Nat.lt_of_lt_of_le hl hb.size, fun j hj => by rw [hb.cell (p := ad.add j) (by rw [add_block]; omega)]; exact hc j hj⟩
/-- Are texts gone through? -/
def lightB (l : List ByteArray) (m b : Nat) : Bool := l.all (fun s => decide (s.size ≤ b)) && decide (l.length ≤ m)
set_option maxHeartbeats 400000 in
theorem lights (a : Option Addr) (l : List ByteArray) (c m b : Nat) (w : World) (h : StrsAt w a l) (hl : l.length ≤ 140737488351232) :
    Calls Try.prog 9 #[.slice a l.length c, .int .i64 (m : Int), .int .i64 (b : Int)] w fun e w' => e = .returned (.bool (lightB l m b)) ∧ w = w' := by
  have H := Lib.hid h
  clear h
  go_enter Try.func9, Try.ntmps9
  go_wp2
  go_loop [7] (fun iv => ∃ k : Nat, k ≤ l.length ∧ iv = .int .i64 (k : Int) ∧ Hid (∀ j (h : j < l.length), j < k → l[j].size ≤ b)) (fun iv => l.length - (intOf iv).toNat)
  case atStart => exact ⟨0, Nat.zero_le _, rfl, fun j _ h => by omega⟩
  case round =>
    obtain ⟨k, hk, rfl, HA⟩ := hrel
    by_cases hlt : k < l.length
    · obtain ⟨ad, rfl, _, hc⟩ := H.out (by omega)
      have hck := hc k hlt
      obtain ⟨s, hs⟩ : ∃ s, s = l[k] := ⟨_, rfl⟩
      rw [← hs] at hck
      have HSS := Lib.hid hs
      clear hc hs
      have hk' : (k : Int) < (l.length : Int) := by omega
      by_cases hsz : s.size ≤ b
      · have hsz' : ¬ (b : Int) < (s.size : Int) := by omega
        have hsd : decide (b < s.size) = false := by simpa using hsz
        go_wp2
        go_round
        case rel => exact ⟨k + 1, by omega, by go_num, show ∀ _ _, _ → _ from fun j hj hjk => by
          by_cases e : j = k
          · subst e
            rw [← HSS.out]
            exact hsz
          · exact HA.out j hj (by omega)⟩
        case measure => simp [intOf]; omega
      · have hsz' : (b : Int) < (s.size : Int) := by omega
        have hsd : decide (b < s.size) = true := by simpa using hsz
        go_wp2
        go_ret
        refine ⟨?_, rfl⟩
        have : lightB l m b = false := by
          unfold lightB
          rw [Bool.and_eq_false_iff]
          left
          rw [List.all_eq_false]
          exact ⟨s, by rw [HSS.out]; exact List.getElem_mem hlt, by simpa using hsz⟩
        rw [this]
        rfl
    · have hk' : ¬ (k : Int) < (l.length : Int) := by omega
      obtain rfl : k = l.length := by omega
      go_wp2
      go_ret
      refine ⟨?_, rfl⟩
      have : lightB l m b = decide (l.length ≤ m) := by
        unfold lightB
        rw [show l.all (fun s => decide (s.size ≤ b)) = true from by
          rw [List.all_eq_true]
          intro s hs
          obtain ⟨j, hj, rfl⟩ := List.mem_iff_getElem.1 hs
          simpa using HA.out j hj hj]
        rfl
      rw [this]
      simp
/-- copy(dst, s), as one step of a region that draws its order. -/
theorem step_copy_string {ops : Array Oper} {o : Oper} {a : Act} {w : World} {K : Act → World → Prop} {Q : Exit → Act → World → Prop} {E : Prop} (hgd : o.guard = none) (d s : Operand)
    (ho : o.op = .call { callee := .builtin .copy, args := #[d, s], argTypes := #[30, 9] })
    (g off dLen dCap : Nat) (l : List UInt8) (hd : a.eval d = .slice (some ⟨g, off, none⟩) dLen dCap) (hs : a.eval s = .string (bs l)) (hle : l.length ≤ dLen)
    (c : List Value) (t : TypeId) (hg : Blk w g c t) (hfit : off + l.length ≤ c.length)
    (h : K (a.put o.dst (goInt l.length)) (w.setRow g (splice c off (byteCells l)).toArray)) : if Region.wanted o (yielded ops a.tmps) = true then Oper.wp Try.prog o a w K Q else E := by
  have hw : Region.wanted o (yielded ops a.tmps) = true := by simp [Region.wanted, hgd]
  rw [if_pos hw]
  have hst := run_storeCells_at Try.prog g off t (byteCells l) 0 c.toArray w hg (by rw [byteCells_length]; simpa using hfit) (byteCells_one l)
  have e : (c.toArray.toList.take (off + 0) ++ byteCells l ++ c.toArray.toList.drop (off + 0 + (byteCells l).length)).toArray = (splice c off (byteCells l)).toArray := by simp [splice]
  rw [e] at hst
  have hcells : (((bs l).extract 0 l.length).data.map fun b => Value.int .u8 (b.toNat : Int)) = (byteCells l).toArray := by
    apply Array.toList_inj.1
    simp [bs, byteCells]
  have hrun : (Builtin.copy_ #[30, 9] o.type #[.slice (some ⟨g, off, none⟩) dLen dCap, .string (bs l)]).run Try.prog w = .ok (goInt l.length) (w.setRow g (splice c off (byteCells l)).toArray) := by
    have hcl : List.take l.length (List.map (fun b => Value.int .u8 (b.toNat : Int)) (bs l).data.toList) = byteCells l  := by
      simp only [bs, byteCells]
      exact List.take_of_length_le (by simp)
    have hi : (Try.prog.info? 5).map (·.size) = some 1 := by kernel_rfl
    cases hq : Try.prog.info? 5 with
    | none => simp [hq] at hi
    | some i =>
      have hs1 : i.size = 1 := by simpa [hq] using hi
      have hmin : Nat.min l.length dLen = l.length := Nat.min_eq_left hle
      simp [Builtin.copy_, run_underlying Try.underlying30, Builtin.lenOf, Builtin.firstCells, sizeOf, typeInfo, hq, hs1, bs_size, hmin, hcl, hst]
  unfold Oper.wp
  simp only [execOp, ho, resolve, invoke, builtin, Sem.run_bind, Sem.run_pure, Result.andThen_ok, List.map_toArray, List.map_cons, List.map_nil, hd, hs, hrun]
  exact h
theorem strCells_bs (l : List UInt8) : Lib.strCells (bs l) = byteCells l := by simp [Lib.strCells, bs, byteCells]
theorem info3 : (Try.prog.info? 3).map (fun i => (i.zero, i.size, i.bytes)) = some (some (.int .i64 0), 1, 8) := by kernel_rfl
/-- A call gives these numbers, in memory of its own, and turns nothing. -/
def GivesInts (w : World) (l : List Int) (e : Ending) (w' : World) : Prop := ∃ v, e = .returned v ∧ w'.ownsRow w.heap.size 3 1 v l.length (l.map (Value.int .i64)) ∧ Below w.heap.size w w'
set_option maxHeartbeats 400000 in
theorem own_ints (a : Option Addr) (l : List Int) (c : Nat) (w : World) (h : IntsAt w (.slice a l.length c) l) (hl : l.length ≤ 1000000) (hnil : a = none → c = 0) :
    Calls Try.prog 17 #[.slice a l.length c] w (GivesInts w l) := by
  obtain ⟨i0, hi0, hz0, hz1, hz2⟩ := info_parts info3
  have HI := Lib.hid (And.intro hi0 (And.intro hz0 (And.intro hz1 hz2)))
  have H := Lib.hid h
  clear hi0 hz0 hz1 hz2 h
  have HE := Lib.hid (show (w.alloc (.cells #[] 3)).ownsRow w.heap.size 3 1 (.slice (some ⟨w.heap.size, 0, none⟩) 0 0) 0 [] from World.ownsRow_made w #[] 0 (Nat.le_refl _) (by unfold maxLen; omega) (by simp))
  cases a with
  | none =>
    obtain rfl := hnil rfl
    have h0 : l.length = 0 := by
      obtain ⟨a', c', e', hh⟩ := H.out
      cases e'
      by_cases h : l.length = 0
      · exact h
      · obtain ⟨ad, e, _⟩ := hh (by omega)
        cases e
    obtain rfl : l = [] := List.eq_nil_of_length_eq_zero h0
    go_enter Try.func17, Try.ntmps17
    go_wp2_with (at_builtin; refine wpList_append_own_none rfl _ _ 23 rfl w.heap.size 3 i0 1 Try.underlying23 HI.out.1 (.slice (some ⟨w.heap.size, 0, none⟩) 0 0) 0 [] rfl HE.out rfl ?_)
    go_ret
    exact ⟨_, rfl, HE.out, (Below.refl w.heap.size w).alloc (Nat.le_refl _) _⟩
  | some ad =>
    have HN := Lib.hid (show ∀ j u, (l.map (Value.int .i64))[j]? = some u → (w.alloc (.cells #[] 3)).cell? (ad.add j) = some u from fun j u hu => by
      rw [List.getElem?_map] at hu
      cases hj : l[j]? with
      | none => rw [hj] at hu; cases hu
      | some x =>
        rw [hj] at hu
        cases hu
        obtain ⟨hjl, hx⟩ := List.getElem?_eq_some_iff.1 hj
        obtain ⟨a', c', e', hh⟩ := H.out
        cases e'
        obtain ⟨ad', e, hal, hc⟩ := hh (by omega)
        cases e
        rw [World.cell?_alloc_lt _ _ _ (by rw [add_block]; exact hal), hc j hjl, hx])
    go_enter Try.func17, Try.ntmps17
    go_wp2_with (at_builtin; refine wpList_append_own _ rfl _ _ 23 rfl w.heap.size 3 i0 (.int .i64 0) 1 8 Try.underlying23 HI.out.1 HI.out.2.1 HI.out.2.2.1 HI.out.2.2.2 rfl (by decide) (.slice (some ⟨w.heap.size, 0, none⟩) 0 0) 0 [] rfl HE.out ad l.length c (l.map (Value.int .i64)) rfl (by simp) HN.out (by intro u hu; obtain ⟨x, _, rfl⟩ := List.mem_map.1 hu; rfl) (by unfold maxLen; omega) (by omega) (by simp) ?_; intro v' w1 hown hgrow _; have HG := Lib.hid (And.intro hown (((Below.refl w.heap.size w).alloc (Nat.le_refl _) (.cells #[] 3)).grown hgrow (by simp) fun k hk => by simp [Value.ownBlock] at hk; omega)); clear hown hgrow)
    go_ret
    refine ⟨_, rfl, ?_, HG.out.2⟩
    have := HG.out.1
    rw [Nat.zero_add, List.nil_append] at this
    exact this
end Go.Proofs.YthienjmkagediaaM
