/- What is an identifier, of which kind, and of which server, is what the document says: for every string, no condition. -/
import Derived.Test.YtppgoppkciakgaaPAx4
import Derived.Test.YtppgoppkciakgaaL3
namespace Go.Proofs.Ytppgoppkciakgaa.Pure
open Go.RowKit Go.Proofs.Ytppgoppkciakgaa.PA Go.Proofs.YtppgoppkciakgaaW.PrintWords Go.Proofs.YtppgoppkciakgaaW.PrintLast Go.Proofs.YtppgoppkciakgaaG Go.Proofs.YtppgoppkciakgaaX Go.Proofs.YtppgoppkciakgaaL
theorem IdentCalls : outlawlaw04_IdentCalls.Pure := by
  intro s hn
  apply Ev.rounds
  unfold outlawlaw04_IdentCalls.f
  rw [lives_f]
  simp only [Option.bind_some, if_true]
  by_cases h : 600 < s.size
  · exact Ev.congr (fun k => if_pos (by omega)) (Ev.now _)
  · refine Ev.congr (fun k => if_neg (by omega)) ?_
    unfold ident_ServerOf.f ident_Server.f ident_User.f ident_Room.f ident_EventID.f ident_Lower.f outlawref04_Lower.f
    simp only [if_pos (small_of hn), Option.bind_some, kind_f s hn]
    refine Ev.bind (serverOf_ev s hn) (Ev.bind (server_ev s hn) ?_)
    refine Ev.congr (fun k => if_pos (by simp)) (Ev.bind (user_ev s hn) ?_)
    refine Ev.congr (fun k => if_pos (by simp)) (Ev.bind (room_ev s hn) ?_)
    refine Ev.congr (fun k => if_pos (by simp)) (Ev.bind (event_ev s hn) ?_)
    refine Ev.congr (fun k => if_pos (by simp)) (Ev.bind (refKind_ev s hn) ?_)
    refine Ev.congr (fun k => by rw [if_pos rfl, if_pos rfl, if_pos (by simp)]) (Ev.congr (fun k => ?_) (Ev.now true))
    simp
end Go.Proofs.Ytppgoppkciakgaa.Pure
