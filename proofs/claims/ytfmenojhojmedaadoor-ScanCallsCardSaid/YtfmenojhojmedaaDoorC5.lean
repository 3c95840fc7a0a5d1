/- The walk of scan.Unquote. -/
import Derived.Test.YtfmenojhojmedaaDoorC2
import Derived.Outline
import Derived.RegionTactic
set_option linter.unusedVariables false
set_option linter.unusedSimpArgs false
namespace Go.Proofs.YtfmenojhojmedaaDoorG
open Go.RowKit Go.Proofs Go.Proofs.YtfmenojhojmedaaDoorX Go.Proofs.YtfmenojhojmedaaDoorB Go.Proofs.YtfmenojhojmedaaDoorW.PrintWords Go.Proofs.YtfmenojhojmedaaDoor.PR
def endR (R : ByteArray × Int × Int) : Ending := .returned (.tuple #[.string R.1, .int .i64 R.2.1, .int .i64 R.2.2])
/-- What a call of a reader's method leaves. -/
def Left3 (w0 w w' : World) (g : Nat) (s : ByteArray) (a e : Int) : Prop := IsS56 w0 w' g s a e ∧ Below w0.heap.size w0 w' ∧ KeepBut w w' g none
theorem next_l (g : Nat) (s : ByteArray) (a e c : Int) (is : Bool) (s' : ByteArray) (a' e' : Int) (w0 w : World) (hI : IsS56 w0 w g s a e) (hB : Below w0.heap.size w0 w) (h : scan_reader_next.f s a e = some (c, is, s', a', e')) :
    Calls Tryd.prog 32 #[.pointer (some ⟨g, 0, none⟩)] w fun q w' => q = .returned (.tuple #[.int .u8 c, .bool is]) ∧ Left3 w0 w w' g s' a' e' := (scan_reader_next.calls g s a e c is s' a' e' w0 w hI hB h).mono fun _ _ h => h
theorem escape_l (k : Nat) (g : Nat) (s : ByteArray) (a e c : Int) (is : Bool) (s' : ByteArray) (a' e' : Int) (w0 w : World) (hI : IsS56 w0 w g s a e) (hB : Below w0.heap.size w0 w) (h : scan_reader_escape.f k s a e = some (c, is, s', a', e')) :
    Calls Tryd.prog 33 #[.pointer (some ⟨g, 0, none⟩)] w fun q w' => q = .returned (.tuple #[.int .i32 c, .bool is]) ∧ Left3 w0 w w' g s' a' e' := (scan_reader_escape.calls k g s a e c is s' a' e' w0 w hI hB h).mono fun _ _ h => h
set_option maxHeartbeats 4000000 in
set_option maxRecDepth 1000000 in
theorem unq_head (s : ByteArray) (c : Int) (is : Bool) (a e0 : Int) (w : World) (hn : scan_reader_next.f s 0 0 = some (c, is, s, a, e0)) (hbad : is = false ∨ c ≠ 34) :
    Calls Tryd.prog 12 #[.string s] w fun q w' => q = endR (⟨#[]⟩, 0, if is = true then 5 else e0) ∧ Below w.heap.size w w' := by
  have HI := Lib.hid (IsS56.new w w s 0 0 (Below.refl _ _))
  have HB := Lib.hid ((Below.refl w.heap.size w).alloc (Nat.le_refl _) (.cells #[.string s, .int .i64 0, .int .i64 0] 56))
  have HN := Lib.hid hn
  clear hn
  cases is with
  | false =>
    clear hbad
    go_enter Tryd.func12, Tryd.ntmps12
    go_wp2_with fail
    refine (next_l w.heap.size s 0 0 c false s a e0 w _ HI.out HB.out HN.out).mono ?_
    rintro q w1 ⟨rfl, h1⟩
    have hc2 : w1.cell? ⟨w.heap.size, 2, none⟩ = some (.int .i64 e0) := cellS56_2 h1.1.1
    have HL := Lib.hid h1
    clear h1
    go_wp2
    go_region
    all_goals go_wp2
    go_ret3
    exact ⟨rfl, HL.out.2.1.drew⟩
  | true =>
    have hb : (c != 34) = true := by rcases hbad with h | h; cases h; simpa using h
    have hb2 : (c == 34) = false := by simpa using hb
    clear hbad
    go_enter Tryd.func12, Tryd.ntmps12
    go_wp2_with fail
    refine (next_l w.heap.size s 0 0 c true s a e0 w _ HI.out HB.out HN.out).mono ?_
    rintro q w1 ⟨rfl, h1⟩
    have hc2 : w1.cell? ⟨w.heap.size, 2, none⟩ = some (.int .i64 e0) := cellS56_2 h1.1.1
    have hf2 : w1.frozen? ⟨w.heap.size, 2, none⟩ = false := blk_frozen h1.1.1 2
    have HL := Lib.hid h1
    clear h1
    go_wp2

    go_region
    all_goals go_wp2
    go_ret3
    exact ⟨rfl, (HL.out.2.1.setCell (p := ⟨w.heap.size, 2, none⟩) (Nat.le_refl _) _).drew⟩
end Go.Proofs.YtfmenojhojmedaaDoorG
