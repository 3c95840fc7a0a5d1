/- The examples of the chapter about identifiers have the results that it states: there is no input, and no condition. -/
import Derived.Test.YtppgoppkciakgaaPAx1
namespace Go.Proofs.Ytppgoppkciakgaa.Pure
open Go.RowKit Go.Proofs.Ytppgoppkciakgaa.PA Go.Proofs.YtppgoppkciakgaaW.PrintWords Go.Proofs.YtppgoppkciakgaaW.PrintLast Go.Proofs.YtppgoppkciakgaaG Go.Proofs.YtppgoppkciakgaaG Go.Proofs.YtppgoppkciakgaaX

/-- YOURS: outlawlaw04_IdentNames.f  = some true
What it reaches (each with k first where it has rounds; `.mono`: more rounds tell the same; `.l0`, ..: its loops, with `.mono_l`): ident_Server.f, ident_User.f, ident_Room.f, ident_EventID.f, ident_Kind.f, ident_ServerOf.f, outlawlaw04_lives.f, ident_Lower.f, outlawlaw04_IdentNames.f -/
theorem IdentNames : outlawlaw04_IdentNames.Pure := by
  unfold outlawlaw04_IdentNames.Pure outlawlaw04_IdentNames.f outlawlaw04_lives.f
  simp only [ByteArray.toList_eq]
  decide +kernel

end Go.Proofs.Ytppgoppkciakgaa.Pure
