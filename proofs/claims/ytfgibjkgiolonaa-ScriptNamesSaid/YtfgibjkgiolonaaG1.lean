import Derived.Test.YtfgibjkgiolonaaProg
import Derived.Test.YtfgibjkgiolonaaWm
import Derived.WalkKit
import Derived.Deep.QuietTactic
import Derived.BigQuiet
import Derived.Lib.Hide
import Derived.WalkLawsBesides
import Derived.WalkSpells
import Derived.RegionTactic
import Derived.LoopN
set_option linter.unusedVariables false
set_option linter.unusedSimpArgs false
namespace Go.Proofs.YtfgibjkgiolonaaG
open Go.RowKit Go.Proofs.YtfgibjkgiolonaaW.PrintWords Go.Proofs.YtfgibjkgiolonaaX
def eightL (n : Int) : List Int := [n / 72057594037927936 % 256, n / 281474976710656 % 256, n / 1099511627776 % 256, n / 4294967296 % 256, n / 16777216 % 256, n / 65536 % 256, n / 256 % 256, n % 256]
def eightS (n : Int) : ByteArray := strOfNums (eightL n)
theorem cells_read (w : World) (xs : List Int) (t : TypeId) (i : Nat) (hi : i < xs.length) : (w.alloc (.cells (xs.map (Value.int .u8)).toArray t)).cell? ⟨w.heap.size, 0 + i, none⟩ = some (.int .u8 (xs.getD i 0)) := by
 rw [Nat.zero_add]
 have h : (w.alloc (.cells (xs.map (Value.int .u8)).toArray t)).heap[w.heap.size]? = some (.cells (xs.map (Value.int .u8)).toArray t) := by
  show (w.heap.push _)[w.heap.size]? = _
  simp
 simp only [World.cell?, h]
 simp [List.getD, hi]
set_option maxHeartbeats 4000000 in
theorem eight_any (n : Int) (w : World) (h1 : -9223372036854775808 ≤ n) (h2 : n ≤ 9223372036854775807) :
  Calls Try.prog 49 #[.int .i64 n] w fun e w' => e = .returned (.string (eightS n)) ∧ Below w.heap.size w w' := by
 have hend := run_convert_bytes_arg (P := Try.prog) (w.alloc (.cells ((eightL n).map (Value.int .u8)).toArray 95)) 37 5 Try.underlying37 Try.underlying5 w.heap.size 0 8 8 (eightL n) rfl (cells_read w (eightL n) 95) 9 Try.underlying9
 simp only [eightL, List.map_cons, List.map_nil] at hend
 go_enter Try.func49, Try.ntmps49
 go_wp2
 refine wp_loop_rounds 9 ?_
 rw [rounds_succ]; go_wp2
 rw [rounds_succ]; go_wp2
 rw [rounds_succ]; go_wp2
 rw [rounds_succ]; go_wp2
 rw [rounds_succ]; go_wp2
 rw [rounds_succ]; go_wp2
 rw [rounds_succ]; go_wp2
 rw [rounds_succ]; go_wp2
 rw [rounds_succ]; go_wp2
 go_ret
 exact ⟨rfl, (Below.refl _ _).alloc (Nat.le_refl _) _⟩
end Go.Proofs.YtfgibjkgiolonaaG
