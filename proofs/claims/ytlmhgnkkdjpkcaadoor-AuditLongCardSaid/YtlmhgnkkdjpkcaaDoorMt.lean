import Derived.Test.YtlmhgnkkdjpkcaaDoorProg
import Derived.Shelf.Strings.BuilderF
import Derived.Lib.FrozenHead2
import Derived.Lib.OthersKept
import Derived.Lib.RuneBytes
import Derived.WalkKit
import Derived.BigCall
import Derived.Test.YtlmhgnkkdjpkcaaDoorShelf3
import Derived.Test.YtlmhgnkkdjpkcaaDoorMl
import Derived.Test.YtlmhgnkkdjpkcaaDoorB3
set_option linter.unusedVariables false
set_option linter.unusedSimpArgs false
namespace Go.Proofs.YtlmhgnkkdjpkcaaDoorB
open Go.RowKit Go.Proofs
theorem infoByte : (Tryd.prog.info? 5).map (fun i => (i.zero, i.size, i.bytes)) = some (some (.int .u8 0), 1, 1) := by kernel_rfl
theorem infoBld : (Tryd.prog.info? 55).map (·.size) = some 2 := by kernel_rfl
theorem liesBld : liesAt Tryd.prog Tryd.prog.depth 55 (2 / Tryd.prog.cellsOf 55) 0 55 1 = true := by kernel_rfl
set_option maxHeartbeats 1000000 in
set_option maxRecDepth 100000 in
theorem copyCheck_used (b : Nat) (w : World) (h0 : w.cell? ⟨b, 0, none⟩ = some (.pointer (some ⟨b, 0, none⟩))) :
  Calls Tryd.prog 50 #[.pointer (some ⟨b, 0, none⟩)] w fun e w' => e = .returned (.tuple #[]) ∧ w' = w := by
 obtain ⟨j, hj, _⟩ := Option.map_eq_some_iff.1 infoBld
 go_enter Tryd.func50, Tryd.ntmps50
 go_wp2
 rw [Lib.run_neq_ptr_same w _ Tryd.underlying52 hj]
 go_wp2
 go_end0
 exact ⟨rfl, rfl⟩
set_option maxHeartbeats 1000000 in
set_option maxRecDepth 100000 in
theorem copyCheck_fresh (b : Nat) (w : World) (h0 : w.cell? ⟨b, 0, none⟩ = some (.pointer none)) (hsh : w.shape? b = some (55, 2)) (hfz : w.frozen? ⟨b, 0, none⟩ = false) :
  Calls Tryd.prog 50 #[.pointer (some ⟨b, 0, none⟩)] w fun e w' => e = .returned (.tuple #[]) ∧ w' = w.setCell ⟨b, 0, none⟩ (.pointer (some ⟨b, 0, none⟩)) := by
 obtain ⟨j, hj, hjs⟩ := Option.map_eq_some_iff.1 infoBld
 go_enter Tryd.func50, Tryd.ntmps50
 go_wp2
 rw [Lib.run_to_unsafe w ⟨b, 0, none⟩ Tryd.underlying52 Tryd.underlying97 hj (by rw [hjs]; decide) hsh (Nat.zero_lt_succ 1)]
 simp only [Result.andThen]
 rw [Oper.upon_value]
 go_wp2
 rw [run_callFunc_extern Tryd.func67 (by kernel_rfl) (by kernel_rfl) (by kernel_rfl) (e := Extern.AbiNoEscape.same) (by kernel_rfl)]
 rw [Lib.run_noEscape]
 simp only [Result.andThen]
 rw [Oper.upon_value]
 go_wp2
 rw [Lib.run_from_unsafe w ⟨b, 0, none⟩ Tryd.underlying97 Tryd.underlying52 hj hsh liesBld]
 simp only [Result.andThen]
 rw [Oper.upon_value]
 go_wp2
 go_end0
 exact ⟨rfl, rfl⟩
theorem copyCheck_k (B b : Nat) (bs : List Value) (w : World) (h : Lib.IsBuilderF 55 5 B b bs w) :
  Calls Tryd.prog 50 #[.pointer (some ⟨b, 0, none⟩)] w fun e w' => e = .returned (.tuple #[]) ∧ (Lib.BuilderAtF 55 5 B b (.pointer (some ⟨b, 0, none⟩)) bs w' ∧ Below B w w' ∧ Lib.OthersKept 5 (some b) w w') := by
 rcases h with h | h
 ·refine (copyCheck_fresh b w h.cell0 h.shape h.frozen0).mono ?_
  rintro e w' ⟨rfl, rfl⟩
  exact ⟨rfl, h.used _, (Below.refl B w).setCell (p := ⟨b, 0, none⟩) h.1 _, (Lib.OthersKept.refl _ _ w).setCell ⟨b, 0, none⟩ rfl _⟩
 ·refine (copyCheck_used b w h.cell0).mono ?_
  rintro e w' ⟨rfl, rfl⟩
  exact ⟨rfl, h, Below.refl B _, Lib.OthersKept.refl _ _ _⟩
theorem neB : (55 : TypeId) ≠ 5 := by decide
set_option maxHeartbeats 2000000 in
set_option maxRecDepth 100000 in
theorem writeString_k (B b : Nat) (bs : List Value) (s : ByteArray) (w : World) (h : Lib.IsBuilderF 55 5 B b bs w) (hlen : bs.length + s.size ≤ 140737488355328) (hBw : B ≤ w.heap.size) :
  Calls Tryd.prog 33 #[.pointer (some ⟨b, 0, none⟩), .string s] w fun e w' => e = .returned (.tuple #[.int .i64 s.size, .nilIface]) ∧ (Lib.BuilderAtF 55 5 B b (.pointer (some ⟨b, 0, none⟩)) (bs ++ Lib.strCells s) w' ∧ Below B w w' ∧ Lib.OthersKept 5 (some b) w w') := by
 obtain ⟨i0, hi, hz0, hz1, hz2⟩ := info_parts infoByte
 go_enter Tryd.func33, Tryd.ntmps33
 go_wp2_with (go_at_call 50; refine (copyCheck_k B b bs _ h).mono ?_)
 rintro e w1 ⟨rfl, h1, hb1, hk1⟩
 obtain ⟨hB, v, hbk, hown, hne⟩ := h1
 have c0 : w1.cell? ⟨b, 0, none⟩ = some (.pointer (some ⟨b, 0, none⟩)) := by rw [Lib.cell_of_heap hbk]; rfl
 have c1 : w1.cell? ⟨b, 1, none⟩ = some v := by rw [Lib.cell_of_heap hbk]; rfl
 go_wp2_with (at_builtin; refine Lib.wpList_append_own_stringF _ rfl _ _ 53 9 rfl B 5 i0 Tryd.underlying53 Tryd.underlying9 hi hz0 hz1 hz2 _ _ _ rfl hown s rfl ?c3 ?c4 ?c5 ?_)
 case c3 => unfold maxLen; omega
 case c4 => omega
 case c5 => have := hb1.size; omega
 intro v' w2 hown' hgrow _
 have hlt : b < w1.heap.size := by
  rcases Nat.lt_or_ge b w1.heap.size with h' | h'
  ·exact h'
  ·simp [Array.getElem?_eq_none h'] at hbk
 have hb2 : w2.heap[b]? = some (.cells #[.pointer (some ⟨b, 0, none⟩), v] 55 (0, 0)) := by
  rw [hgrow.block b hlt (fun e => hne e.symm)]
  exact hbk
 have d0 : w2.cell? ⟨b, 0, none⟩ = some (.pointer (some ⟨b, 0, none⟩)) := by rw [Lib.cell_of_heap hb2]; rfl
 have d1 : w2.cell? ⟨b, 1, none⟩ = some v := by rw [Lib.cell_of_heap hb2]; rfl
 have f1 : w2.frozen? ⟨b, 1, none⟩ = false := Lib.frozen_of_heap hb2 1
 obtain ⟨ao, n', cap, rfl⟩ : ∃ ao n' cap, v' = .slice ao n' cap := by
  rcases hown'.2 with ⟨hv, _⟩ | ⟨g, cap, cur, fz, hv, _⟩
  ·exact ⟨_, _, _, hv⟩
  ·exact ⟨_, _, _, hv⟩
 go_wp2
 go_ret2
 refine ⟨rfl, ?_, ?_, (hk1.grown hgrow (Lib.ownsRowF_kind hown)).setCell ⟨b, 1, none⟩ rfl _⟩
 ·exact Lib.BuilderAtF.put (T := 55) (e := 5) hB hb2 (bs' := bs ++ Lib.strCells s) (by simpa [Lib.strCells_length] using hown') neB
 ·exact (hb1.grown hgrow (by have := hb1.size; omega) (fun k hk => (hown.lt k hk).1)).setCell (p := ⟨b, 1, none⟩) hB _
end Go.Proofs.YtlmhgnkkdjpkcaaDoorB
set_option linter.unusedVariables false
set_option linter.unusedSimpArgs false
namespace Go.Proofs.YtlmhgnkkdjpkcaaDoorG
open Go.RowKit Go.Proofs.YtlmhgnkkdjpkcaaDoor.PA Go.Proofs.YtlmhgnkkdjpkcaaDoorW.PrintWords Go.Proofs.YtlmhgnkkdjpkcaaDoorW.PrintLast Go.Proofs.YtlmhgnkkdjpkcaaDoorW.PrintMore Go.Proofs.YtlmhgnkkdjpkcaaDoorM Go.Proofs.YtlmhgnkkdjpkcaaDoorB
theorem builder_below {B b : Nat} {bs : List Value} {w w' : World} (h : Lib.IsBuilderF 55 5 B b bs w) (hk : Below w.heap.size w w') : Lib.IsBuilderF 55 5 B b bs w' := by
 have key : ∀ p, Lib.BuilderAtF 55 5 B b p bs w → Lib.BuilderAtF 55 5 B b p bs w' := by
  rintro p ⟨hB, v, hb, hown, hn⟩
  have lt : ∀ i o, w.heap[i]? = some o → i < w.heap.size := fun i o h => (Array.getElem?_eq_some_iff.1 h).1
  refine ⟨hB, v, (hk.block b (lt _ _ hb)).trans hb, ⟨hown.1, ?_⟩, hn⟩
  rcases hown.2 with h | ⟨r, cap, cur, fz, hv, hbr, hr, rest⟩
  ·exact .inl h
  ·exact .inr ⟨r, cap, cur, fz, hv, hbr, (hk.block r (lt _ _ hr)).trans hr, rest⟩
 exact h.elim (fun x => .inl (key _ x)) (fun x => .inr (key _ x))
def noteS (n : S30) : ByteArray := lineS n.f0 n.f1 n.f2.f0 n.f2.f1 n.f2.f2 n.f2.f3 n.f2.f4 n.f3 n.f4
def textS : List S30 → ByteArray
 | [] => ⟨#[]⟩
 | n :: l => noteS n ++ ⟨#[10]⟩ ++ textS l
def TextOk (n : S30) : Prop := ((-9223372036854775808 ≤ n.f1 ∧ n.f1 ≤ 9223372036854775807) ∧ (-9223372036854775808 ≤ n.f3 ∧ n.f3 ≤ 9223372036854775807)) ∧ n.f2.f1.size + n.f2.f2.size + n.f2.f3.size + n.f2.f4.size + n.f4.size ≤ 1073741824
instance (n : S30) : Decidable (TextOk n) := by unfold TextOk; infer_instance
theorem textS_append (l m : List S30) : textS (l ++ m) = textS l ++ textS m := by
 induction l with
 | nil => exact (ByteArray.empty_append).symm
 | cons n l ih => simp only [List.cons_append, textS, ih, ByteArray.append_assoc]
theorem textS_take (l : List S30) (i : Int) (h0 : 0 ≤ i) (hi : i < (l.length : Int)) : textS (l.take (i + 1).toNat) = textS (l.take i.toNat) ++ (noteS (rd_T30 l i) ++ ⟨#[10]⟩) := by
 have hlt : i.toNat < l.length := by omega
 have e : (rd_T30 l i) = l[i.toNat] := by
  unfold rd_T30
  rw [List.getD_eq_getElem?_getD, List.getElem?_eq_getElem hlt]; rfl
 rw [show (i + 1).toNat = i.toNat + 1 by omega, List.take_add_one, List.getElem?_eq_getElem hlt, textS_append, e]
 show _ ++ (noteS l[i.toNat] ++ ⟨#[10]⟩ ++ ⟨#[]⟩) = _
 rw [show (⟨#[]⟩ : ByteArray) = ByteArray.empty from rfl, ByteArray.append_empty]
theorem noteS_size {n : S30} (h : TextOk n) : (noteS n).size ≤ 1073742000 := by
 obtain ⟨⟨⟨t0, t1⟩, c0, c1⟩, hs⟩ := h
 have sW := kinds_size n.f0
 have sA := acts_size n.f2.f0
 have sc := itoaS_size n.f3 c0 c1
 have st := itoaS_size n.f1 t0 t1
 have e1 : (⟨#[32]⟩ : ByteArray).size = 1 := rfl
 unfold noteS lineS
 split
 ·simp only [ByteArray.size_append, e1]; omega
 split
 ·simp only [ByteArray.size_append, e1]; omega
 split
 ·simp only [ByteArray.size_append, e1]; omega
 ·omega
theorem textS_size (l : List S30) (h : ∀ n ∈ l, TextOk n) : (textS l).size ≤ 1073742001 * l.length := by
 induction l with
 | nil => exact Nat.le_refl _
 | cons n l ih =>
  have h1 := noteS_size (h n List.mem_cons_self)
  have h2 := ih fun x hx => h x (List.mem_cons_of_mem _ hx)
  have e1 : (⟨#[10]⟩ : ByteArray).size = 1 := rfl
  simp only [textS, ByteArray.size_append, e1, List.length_cons]; omega
theorem strCells_bytes (s : ByteArray) : Lib.strCells s = Lib.byteCells s.data.toList := by
 unfold Lib.strCells Lib.byteCells; simp
theorem line_n (n : S30) (w : World) (hw : Tab w) (h : TextOk n) :
  Calls Tryd.prog 10 #[.agg #[.int .i64 n.f0, .int .i64 n.f1, .int .i64 n.f2.f0, .string n.f2.f1, .string n.f2.f2, .string n.f2.f3, .string n.f2.f4, .int .i64 n.f3, .string n.f4]] w fun e w' => e = .returned (.string (noteS n)) ∧ Below w.heap.size w w' :=
 line_any n.f0 n.f1 n.f2.f0 n.f2.f1 n.f2.f2 n.f2.f3 n.f2.f4 n.f3 n.f4 w hw h.1.1.1 h.1.1.2 h.1.2.1 h.1.2.2 (Nat.le_trans h.2 (by decide))
theorem cells_add (s t : ByteArray) : Lib.byteCells s.data.toList ++ Lib.strCells t = Lib.byteCells (s ++ t).data.toList := by
 rw [strCells_bytes, ByteArray.data_append, Array.toList_append]
 unfold Lib.byteCells; rw [List.map_append]
theorem textS_take_size (l : List S30) (h : ∀ n ∈ l, TextOk n) (hl : l.length ≤ 1000) (k : Nat) : (textS (l.take k)).size ≤ 1073742001000 := by
 have h1 := textS_size (l.take k) fun n hn => h n (List.mem_of_mem_take hn)
 have h2 : (l.take k).length ≤ 1000 := by rw [List.length_take]; omega
 omega
set_option maxHeartbeats 4000000 in
set_option maxRecDepth 100000 in
theorem text_any (w : World) (A : Option Addr) (c : Nat) (l : List S30) (hC : Kd.C k30 w A l.length l) (hw : Tab w) (hok : ∀ n ∈ l, TextOk n) (hl : l.length ≤ 1000) :
  Calls Tryd.prog 11 #[.slice A l.length c] w fun e w' => e = .returned (.string (textS l)) ∧ Below w.heap.size w w' := by
 have HC := Lib.hid (And.intro hC (And.intro hw hok))
 have HLEN := Lib.hid hl
 have hb := Lib.IsBuilderF.of (Lib.fresh_isBuilder 55 5 w)
 have HB := Lib.hid hb
 have HS := Lib.hid ((Below.refl w.heap.size w).alloc (Nat.le_refl _) (.cells #[.pointer none, .slice none 0 0] 55))
 clear hC hw hok hb
 go_enter Tryd.func11, Tryd.ntmps11
 go_wp2_with fail
 generalize World.alloc _ _ = w1 at HB HS ⊢
 go_loopw [8] (fun v wr => ∃ (i : Int), v = .int .i64 i ∧ 0 ≤ i ∧ i ≤ l.length ∧ Hid (Lib.IsBuilderF 55 5 w.heap.size w.heap.size (Lib.byteCells (textS (l.take i.toNat)).data.toList) wr ∧ Below w.heap.size w wr ∧ w.heap.size ≤ wr.heap.size))
  (fun v _ => l.length - (intOf v).toNat)
 case atStart => exact ⟨0, rfl, by omega, by omega, Lib.hid ⟨HB.out, HS.out, HS.out.size⟩⟩
 case round =>
  obtain ⟨i, rfl, h0, hi, HX⟩ := hrel
  by_cases hlt : i < (l.length : Int)
  ·have HD := Lib.hid (drop_cons l i h0 hlt)
   have HCr := Lib.hid (Kd.C_below HC.out.1 HX.out.2.1)
   obtain ⟨ad, e184, hx0, hx1, hx2, hx3, hx4, hx5, hx6, hx7, hx8⟩ := at_T30 HCr.out i h0 hlt
   subst e184
   have hO : TextOk (rd_T30 l i) := HC.out.2.2 _ (List.mem_of_mem_drop (i := i.toNat) (by rw [HD.out]; exact List.mem_cons_self))
   have HO := Lib.hid hO
   clear hO
   have hsz := noteS_size HO.out
   have q1 : (9223372036854775807 < (noteS (rd_T30 l i)).size + 1) = False := eq_false (by omega)
   have q2 : (9223372036854775806 < (noteS (rd_T30 l i)).size) = False := eq_false (by omega)
   have HQ := Lib.hid hsz
   clear hsz
   go_wp2_with fail
   refine (line_n (rd_T30 l i) _ (HC.out.2.1.below (HX.out.2.1.alloc HX.out.2.2 _) (Nat.le_refl _)) HO.out).mono ?_
   rintro e w2 ⟨rfl, hb2⟩
   have hB1 := builder_below (builder_below HX.out.1 ((Below.refl wr.heap.size wr).alloc (Nat.le_refl _) (.cells #[.int .i64 (rd_T30 l i).f0, .int .i64 (rd_T30 l i).f1, .int .i64 (rd_T30 l i).f2.f0, .string (rd_T30 l i).f2.f1, .string (rd_T30 l i).f2.f2, .string (rd_T30 l i).f2.f3, .string (rd_T30 l i).f2.f4, .int .i64 (rd_T30 l i).f3, .string (rd_T30 l i).f4] 30))) hb2
   have hs2 : Below w.heap.size w w2 := (HX.out.2.1.alloc HX.out.2.2 _).trans (hb2.mono (Nat.le_trans HX.out.2.2 (by rw [World.size_alloc]; omega)))
   have HB2 := Lib.hid hB1
   have HS2 := Lib.hid hs2
   clear hb2 hB1 hs2
   go_wp2_with fail
   refine (writeString_k _ _ _ _ _ HB2.out ?_ HS2.out.size).mono ?_
   ·have h1 := textS_take_size l HC.out.2.2 HLEN.out i.toNat
    have h2 := HQ.out
    have e1 : (⟨#[10]⟩ : ByteArray).size = 1 := rfl
    have e2 : (Lib.byteCells (textS (l.take i.toNat)).data.toList).length = (textS (l.take i.toNat)).size := by unfold Lib.byteCells; rw [List.length_map]; rfl
    rw [e2, ByteArray.size_append, e1]; omega
   rintro e w3 ⟨rfl, hB3, hb3, -⟩
   rw [cells_add, ← textS_take l i h0 hlt] at hB3
   have HB3 := Lib.hid hB3
   have HS3 := Lib.hid (HS2.out.trans hb3)
   clear hB3 hb3 HB2 HS2
   have hw := wrap_i (i := i) h0 hlt (by have := HLEN.out; omega)
   go_wp2_with fail
   go_roundw
   case rel => exact ⟨i + 1, by first | rfl | rw [hw], by omega, by omega, Lib.hid ⟨.inr HB3.out, HS3.out, HS3.out.size⟩⟩
   case measure => simp [intOf]; omega
  ·obtain rfl : i = l.length := by omega
   have hX := HX.out.1
   rw [show ((l.length : Int)).toNat = l.length from rfl, List.take_length] at hX
   have HX1 := Lib.hid hX
   clear hX
   go_wp2_with fail
   refine (Tryd.Builder_String_any_k _ _ _ _ HX1.out HX.out.2.2).mono ?_
   rintro e w2 ⟨rfl, -, hb2, -⟩
   go_wp2_with fail
   go_ret
   exact ⟨rfl, HX.out.2.1.trans hb2⟩
def audit_Text.f (l : List S30) : Option ByteArray := if (∀ n ∈ l, TextOk n) ∧ l.length ≤ 1000 then some (textS l) else none
theorem audit_Text.calls (A0 : Option Addr) (c0 : Nat) (l0 : List S30) (r : ByteArray) (w : World) (ht : Tab w) (hr0 : Kd.C k30 w A0 l0.length l0) (hc0 : l0.length ≤ c0) (h : audit_Text.f l0 = some r) :
  Calls Tryd.prog 11 #[.slice A0 l0.length c0] w fun e w' => e = .returned (.string r) ∧ Below w.heap.size w w' := by
 unfold audit_Text.f at h
 by_cases hk : (∀ n ∈ l0, TextOk n) ∧ l0.length ≤ 1000
 ·rw [if_pos hk] at h
  obtain rfl := Option.some.inj h
  exact text_any w A0 c0 l0 hr0 ht hk.1 hk.2
 ·rw [if_neg hk] at h
  simp at h
end Go.Proofs.YtlmhgnkkdjpkcaaDoorG
