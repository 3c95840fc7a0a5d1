/- The contracts of scan.Word and scan.ReadNumber. -/
import Derived.Test.YtfmenojhojmedaaDoorG0
import Derived.Deep.LoopGhost
import Derived.WalkLawsBesides
import Derived.WalkSpells
import Derived.LoopN
set_option linter.unusedVariables false
set_option linter.unusedSimpArgs false
namespace Go.Proofs.YtfmenojhojmedaaDoorG
open Go.RowKit Go.Proofs Go.Proofs.YtfmenojhojmedaaDoorX Go.Proofs.YtfmenojhojmedaaDoorB Go.Proofs.YtfmenojhojmedaaDoorW.PrintWords
def sTrue : ByteArray := ⟨#[116, 114, 117, 101]⟩
def sFalse : ByteArray := ⟨#[102, 97, 108, 115, 101]⟩
def sNull : ByteArray := ⟨#[110, 117, 108, 108]⟩
def wordS (s : ByteArray) : ByteArray := if Lib.hasPrefix s.data.toList sTrue.data.toList = true then sTrue else if Lib.hasPrefix s.data.toList sFalse.data.toList = true then sFalse else if Lib.hasPrefix s.data.toList sNull.data.toList = true then sNull else ⟨#[]⟩
set_option maxHeartbeats 2000000 in
theorem word_any (s : ByteArray) (w : World) :
    Calls Tryd.prog 19 #[.string s] w fun e w' => e = .returned (.string (wordS s)) ∧ w' = w := by
  have i0 : ∀ w, (Instr.index 65 (.agg #[.string ⟨#[116, 114, 117, 101]⟩, .string ⟨#[102, 97, 108, 115, 101]⟩, .string ⟨#[110, 117, 108, 108]⟩]) (.int .i64 0)).run Tryd.prog w = .ok (.string ⟨#[116, 114, 117, 101]⟩) w := fun _ => by kernel_rfl
  have i1 : ∀ w, (Instr.index 65 (.agg #[.string ⟨#[116, 114, 117, 101]⟩, .string ⟨#[102, 97, 108, 115, 101]⟩, .string ⟨#[110, 117, 108, 108]⟩]) (.int .i64 1)).run Tryd.prog w = .ok (.string ⟨#[102, 97, 108, 115, 101]⟩) w := fun _ => by kernel_rfl
  have i2 : ∀ w, (Instr.index 65 (.agg #[.string ⟨#[116, 114, 117, 101]⟩, .string ⟨#[102, 97, 108, 115, 101]⟩, .string ⟨#[110, 117, 108, 108]⟩]) (.int .i64 2)).run Tryd.prog w = .ok (.string ⟨#[110, 117, 108, 108]⟩) w := fun _ => by kernel_rfl
  have c0 := Tryd.strings_HasPrefix s sTrue w
  have c1 := Tryd.strings_HasPrefix s sFalse w
  have c2 := Tryd.strings_HasPrefix s sNull w
  generalize hb0 : Lib.hasPrefix s.data.toList sTrue.data.toList = b0 at c0
  generalize hb1 : Lib.hasPrefix s.data.toList sFalse.data.toList = b1 at c1
  generalize hb2 : Lib.hasPrefix s.data.toList sNull.data.toList = b2 at c2
  have hw : wordS s = if b0 = true then sTrue else if b1 = true then sFalse else if b2 = true then sNull else ⟨#[]⟩ := by unfold wordS; rw [hb0, hb1, hb2]
  rw [hw]
  clear hw hb0 hb1 hb2
  have C0 := Lib.hid c0
  have C1 := Lib.hid c1
  have C2 := Lib.hid c2
  clear c0 c1 c2
  cases b0 <;> cases b1 <;> cases b2
  all_goals
    go_enter Tryd.func19, Tryd.ntmps19
    go_wp2
    refine wp_loop_rounds 4 ?_
    rw [rounds_succ]; go_wp2_with (go_at_call 38; refine C0.out.mono ?_; rintro e w' ⟨rfl, rfl⟩)
    try (rw [rounds_succ]; go_wp2_with (go_at_call 38; refine C1.out.mono ?_; rintro e w' ⟨rfl, rfl⟩))
    try (rw [rounds_succ]; go_wp2_with (go_at_call 38; refine C2.out.mono ?_; rintro e w' ⟨rfl, rfl⟩))
    try (rw [rounds_succ]; go_wp2)
    go_ret
    exact ⟨rfl, rfl⟩
def scan_Word.f (s : ByteArray) : Option ByteArray := some (wordS s)
theorem scan_Word.calls (s : ByteArray) (r : ByteArray) (w : World) (h : scan_Word.f s = some r) :
    Calls Tryd.prog 19 #[.string s] w fun e w' => e = .returned (.string r) ∧ Drawn0 w w' := by
  obtain rfl := Option.some.inj h
  refine (word_any s w).mono ?_
  rintro e w' ⟨rfl, rfl⟩
  exact ⟨rfl, ⟨0, rfl⟩⟩
end Go.Proofs.YtfmenojhojmedaaDoorG
