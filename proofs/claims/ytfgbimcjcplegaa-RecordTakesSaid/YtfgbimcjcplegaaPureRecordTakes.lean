/- A string is taken as an event as long as one may be, otherwise only as its length; either is valid, and is described by its line: for every string, and how much longer it is, no condition. -/
import Derived.Test.YtfgbimcjcplegaaPAx2
import Derived.Test.YtfgbimcjcplegaaX1
set_option linter.unusedVariables false
set_option linter.unusedSimpArgs false
namespace Go.Proofs.Ytfgbimcjcplegaa.Pure
open Go.RowKit Go.Proofs.Ytfgbimcjcplegaa.PA Go.Proofs.YtfgbimcjcplegaaW.PrintWords Go.Proofs.YtfgbimcjcplegaaW.PrintLast Go.Proofs.YtfgbimcjcplegaaG Go.Proofs.YtfgbimcjcplegaaX
theorem lives_1 : outlawlaw21_lives.f 1 = some true := by
  unfold outlawlaw21_lives.f
  simp only [ByteArray.toList_eq]
  decide +kernel
theorem lives_ev : Ev (fun k => outlawlaw21_lives.f k) true := Ev.of (fun k => outlawlaw21_lives.mono k) lives_1
theorem take_ok (s : ByteArray) (hn : s.size ≤ 20000) : ∃ k c n o t, record_Take.f s = some (k, c, n, o, t) ∧ record_Check.f k c n o t = some 0 ∧
    (if (s.size : Int) ≤ 4096 then (some (k == 1 && (c == 0 && (n == 0 && (!o && (t.toList == s.toList)))))) else (some (k == 2 && (c == 0 && (n == (s.size : Int) && (!o && (t.toList == ([] : List UInt8)))))))) = some true := by
  unfold record_Take.f record_Check.f checkI errIf
  by_cases h : (s.size : Int) > 4096
  · refine ⟨2, 0, (s.size : Int), false, ⟨#[]⟩, if_pos h, ?_, ?_⟩
    · have h1 : 4097 ≤ (s.size : Int) := by omega
      have h2 : (s.size : Int) ≤ 1152921504606846975 := by omega
      simp [h1, h2]
      rfl
    · rw [if_neg (by omega), ByteArray.toList_eq]
      simp
  · refine ⟨1, 0, 0, false, s, if_neg h, ?_, ?_⟩
    · have h1 : ¬ 4096 < s.size := by omega
      simp [h1]
    · rw [if_pos (by omega)]
      simp
theorem RecordTakes : outlawlaw21_RecordTakes.Pure := by
  intro s n hs hn
  apply Ev.rounds
  unfold outlawlaw21_RecordTakes.f
  refine Ev.bind lives_ev ?_
  refine Ev.congr (fun k => if_pos rfl) ?_
  by_cases h : 5000 < s.size
  · exact Ev.congr (fun k => if_pos (by omega)) (Ev.now _)
  · refine Ev.congr (fun k => if_neg (by omega)) ?_
    have hp := pick_of (f := outlawkit_Pick.f) (fun _ _ => rfl) n 5001 (by omega) (by omega)
    have hr := pick_range n 5001 (by omega)
    obtain ⟨m, hm⟩ := Int.eq_ofNat_of_zero_le hr.1
    rw [hp, hm]
    rw [hm] at hr
    simp only [Option.bind_some]
    have hone : (⟨#[120]⟩ : ByteArray).size = 1 := rfl
    have ht := times_ev (l0 := outlawkit_Times.l0) (fun k x0 x1 x5 => by simp only [outlawkit_Times.l0]) m ⟨#[120]⟩ ⟨#[]⟩ (by omega) (by rw [hone]; show 0 + _ ≤ _; omega)
    refine Ev.bind (g := fun k => outlawkit_Times.f k ⟨#[120]⟩ (m : Int)) ht ?_
    have hsz : (⟨#[]⟩ ++ repS ⟨#[120]⟩ m : ByteArray).size = m := by
      rw [ByteArray.size_append, repS_size, hone]
      show 0 + m * 1 = m
      omega
    have hall : (s ++ (⟨#[]⟩ ++ repS ⟨#[120]⟩ m) : ByteArray).size ≤ 20000 := by rw [ByteArray.size_append, hsz]; omega
    obtain ⟨k', c', n', o', t', h1, h2, h3⟩ := take_ok _ hall
    refine Ev.congr (fun k => by rw [if_pos (by rw [hsz]; omega), h1]) ?_
    simp only [Option.bind_some]
    refine Ev.congr (fun k => by rw [h2]) ?_
    simp only [Option.bind_some]
    exact Ev.congr (fun k => by rw [if_pos trivial, h3]) (Ev.now true)
end Go.Proofs.Ytfgbimcjcplegaa.Pure
