/- The contracts of ident's functions in the form in which the printed texts call them. -/
import Derived.Test.YtppgoppkciakgaaG4
set_option linter.unusedVariables false
namespace Go.Proofs.YtppgoppkciakgaaG
open Go.RowKit
def small47 (a : ByteArray) : Prop := a.size ≤ 140737488351232
instance (a : ByteArray) : Decidable (small47 a) := inferInstanceAs (Decidable (a.size ≤ _))
theorem of_small {α : Type} {a : ByteArray} {x r : α} (h : (if small47 a then some x else none) = some r) : a.size ≤ 140737488351232 ∧ x = r := by
  by_cases hs : small47 a
  · rw [if_pos hs] at h
    exact ⟨hs, Option.some.inj h⟩
  · rw [if_neg hs] at h
    simp at h
def ident_Server.f (a0 : ByteArray) : Option Bool := if small47 a0 then some (serverI a0) else none
theorem ident_Server.calls (a0 : ByteArray) (r : Bool) (w : World) (h : ident_Server.f a0 = some r) :
    Calls Try.prog 10 #[.string a0] w fun e w' => e = .returned (.bool r) ∧ Below w.heap.size w w' := by
  obtain ⟨hs, rfl⟩ := of_small h
  exact server_any a0 w hs
def ident_User.f (a0 : ByteArray) : Option Bool := if small47 a0 then some (userI a0) else none
theorem ident_User.calls (a0 : ByteArray) (r : Bool) (w : World) (h : ident_User.f a0 = some r) :
    Calls Try.prog 15 #[.string a0] w fun e w' => e = .returned (.bool r) ∧ Below w.heap.size w w' := by
  obtain ⟨hs, rfl⟩ := of_small h
  exact user_any a0 w hs
def ident_Room.f (a0 : ByteArray) : Option Bool := if small47 a0 then some (roomI a0) else none
theorem ident_Room.calls (a0 : ByteArray) (r : Bool) (w : World) (h : ident_Room.f a0 = some r) :
    Calls Try.prog 17 #[.string a0] w fun e w' => e = .returned (.bool r) ∧ Below w.heap.size w w' := by
  obtain ⟨hs, rfl⟩ := of_small h
  exact room_any a0 w hs
def ident_EventID.f (a0 : ByteArray) : Option Bool := if small47 a0 then some (eventI a0) else none
theorem ident_EventID.calls (a0 : ByteArray) (r : Bool) (w : World) (h : ident_EventID.f a0 = some r) :
    Calls Try.prog 19 #[.string a0] w fun e w' => e = .returned (.bool r) ∧ Below w.heap.size w w' := by
  obtain ⟨hs, rfl⟩ := of_small h
  exact event_any a0 w hs
def ident_ServerOf.f (a0 : ByteArray) : Option (ByteArray × Bool) := if small47 a0 then some (serverOfI a0) else none
theorem ident_ServerOf.calls (a0 : ByteArray) (r1 : ByteArray) (r2 : Bool) (w : World) (h : ident_ServerOf.f a0 = some (r1, r2)) :
    Calls Try.prog 12 #[.string a0] w fun e w' => e = .returned (.tuple #[.string r1, .bool r2]) ∧ Below w.heap.size w w' := by
  obtain ⟨hs, he⟩ := of_small h
  have := serverOf_any a0 w hs
  rw [he] at this
  exact this
def ident_Lower.f (a0 : ByteArray) : Option ByteArray := if small47 a0 then some (lowerS a0) else none
theorem ident_Lower.calls (a0 : ByteArray) (r : ByteArray) (w : World) (h : ident_Lower.f a0 = some r) :
    Calls Try.prog 11 #[.string a0] w fun e w' => e = .returned (.string r) ∧ Below w.heap.size w w' := by
  obtain ⟨hs, rfl⟩ := of_small h
  exact lower_any a0 w hs
def outlawref04_Lower.f (a0 : ByteArray) : Option ByteArray := if small47 a0 then some (lowerS a0) else none
theorem outlawref04_Lower.calls (a0 : ByteArray) (r : ByteArray) (w : World) (h : outlawref04_Lower.f a0 = some r) :
    Calls Try.prog 22 #[.string a0] w fun e w' => e = .returned (.string r) ∧ Below w.heap.size w w' := by
  obtain ⟨hs, rfl⟩ := of_small h
  exact refLower_any a0 w hs
end Go.Proofs.YtppgoppkciakgaaG
