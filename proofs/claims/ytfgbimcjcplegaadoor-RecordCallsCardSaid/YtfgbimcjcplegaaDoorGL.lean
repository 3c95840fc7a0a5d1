/- The contract of record.Line, where strconv's table lies. -/
import Derived.Test.YtfgbimcjcplegaaDoorGm
import Derived.Test.YtfgbimcjcplegaaDoorShelf
import Derived.Lib.ItoaLen
import Derived.Lib.SmallJoins
import Derived.Lib.AppendIntMem
set_option linter.unusedVariables false
set_option linter.unusedSimpArgs false
namespace Go.Proofs.YtfgbimcjcplegaaDoorG
open Go.RowKit Go.Proofs.YtfgbimcjcplegaaDoorW.PrintWords Go.Proofs.YtfgbimcjcplegaaDoorX Go.Proofs.YtfgbimcjcplegaaDoorW.PrintMore
def Tab (w : World) : Prop := Lib.TabIs Tryd.prog w "internal/strconv.uint64pow10" .u64 Lib.pow10Tab
def itoaS (n : Int) : ByteArray := ⟨(Lib.itoa n).toArray⟩
theorem itoaS_size (n : Int) (h0 : -9223372036854775808 ≤ n) (h1 : n ≤ 9223372036854775807) : (itoaS n).size ≤ 21 := Lib.itoa_length_le n h0 h1
theorem grow_below {w w' : World} (h : ∃ k os, w' = Go.Sort.grow (w.drewN k) os) : Below w.heap.size w w' := by
  obtain ⟨k, os, rfl⟩ := h
  exact Lib.below_grow _ w (Nat.le_refl _) k os
theorem format_any (n : Int) (w : World) (h0 : -9223372036854775808 ≤ n) (h1 : n ≤ 9223372036854775807) (ht : Tab w) :
    Calls Tryd.prog 21 #[.int .i64 n, .int .i64 10] w fun e w' => e = .returned (.string (itoaS n)) ∧ Below w.heap.size w w' := by
  refine (Tryd.strconv_FormatInt_10 n h0 h1 w ht).mono ?_
  rintro e w' ⟨rfl, h⟩
  exact ⟨rfl, grow_below h⟩
theorem itoa_any (n : Int) (w : World) (h0 : -9223372036854775808 ≤ n) (h1 : n ≤ 9223372036854775807) (ht : Tab w) :
    Calls Tryd.prog 22 #[.int .i64 n] w fun e w' => e = .returned (.string (itoaS n)) ∧ Below w.heap.size w w' := by
  refine (Tryd.strconv_Itoa n h0 h1 w ht).mono ?_
  rintro e w' ⟨rfl, h⟩
  exact ⟨rfl, grow_below h⟩
theorem Tab.below {w w' : World} {B : Nat} (h : Tab w) (hb : Below B w w') (hB : w.heap.size ≤ B) : Tab w' := Go.Joins.tab_stays (g := 0) (by kernel_rfl) h hb hB
def lineS (k c n : Int) (ok : Bool) (t : ByteArray) : ByteArray :=
  if k = 1 then ⟨#[101, 118, 101, 110, 116, 32]⟩ ++ itoaS t.size
  else if k = 2 then ⟨#[108, 111, 110, 103]⟩ ++ (⟨#[32]⟩ ++ itoaS n)
  else if k = 3 then if ok = true then ⟨#[114, 101, 112, 108, 121]⟩ ++ (⟨#[32]⟩ ++ itoaS n) ++ ⟨#[32, 121, 101, 115]⟩ else ⟨#[114, 101, 112, 108, 121]⟩ ++ (⟨#[32]⟩ ++ itoaS n) ++ ⟨#[32, 110, 111]⟩
  else if k = 4 then ⟨#[116, 105, 99, 107]⟩ ++ (⟨#[32]⟩ ++ itoaS n)
  else if k = 5 then ⟨#[99, 111, 109, 109, 97, 110, 100, 32]⟩ ++ itoaS c ++ ⟨#[32]⟩ ++ t
  else if k = 6 then ⟨#[114, 101, 115, 116, 97, 114, 116]⟩
  else ⟨#[63]⟩
end Go.Proofs.YtfgbimcjcplegaaDoorG
