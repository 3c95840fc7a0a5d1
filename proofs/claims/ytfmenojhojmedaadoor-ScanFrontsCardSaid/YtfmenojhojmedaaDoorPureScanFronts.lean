import Derived.Test.YtfmenojhojmedaaDoorPAx3
import Derived.Test.YtfmenojhojmedaaDoorU6
set_option linter.unusedVariables false
set_option linter.unusedSimpArgs false
namespace Go.Proofs.YtfmenojhojmedaaDoor.Pure
open Go.RowKit Go.Lib Go.Proofs.YtfmenojhojmedaaDoor.PA Go.Proofs.YtfmenojhojmedaaDoorG Go.Proofs.YtfmenojhojmedaaDoorX Go.Proofs.YtfmenojhojmedaaDoorU
open Go.Proofs.YtfmenojhojmedaaDoorV hiding size_list
open Go.Proofs.YtfmenojhojmedaaDoorW.PrintWords hiding encs encs_append
theorem pick_val (n m : Int) (hm : 1 ≤ m) (hM : m ≤ 4611686018427387904) : outlawkit_Pick.f n m = some (n % m) := pick_of (fun _ _ => rfl) n m hm hM
theorem front_list (s : ByteArray) (k : Nat) : (s.extract 0 k).data.toList = s.data.toList.take k := by
  rw [extract_data, List.drop_zero, Nat.sub_zero]
theorem ScanFronts : outlawlaw01_ScanFronts.Pure := by
  intro a0 a1 a2 _ _ _
  refine Ev.rounds (g := fun k => outlawlaw01_ScanFronts.f k a0 a1 a2) ?_
  have hf : ∀ k, outlawlaw01_ScanFronts.f k a0 a1 a2 = if (a0.size : Int) > 2000 then outlawlaw01_ScanFronts.j0 k a0 a1 a2 true else outlawlaw01_ScanFronts.j0 k a0 a1 a2 (decide ((a1.size : Int) > 2000)) := fun k => by
    unfold outlawlaw01_ScanFronts.f
    rw [lives_val, Option.bind_some]
    exact if_pos rfl
  have hout : ∀ k, outlawlaw01_ScanFronts.j0 (k + 1) a0 a1 a2 true = some true := fun k => by
    rw [outlawlaw01_ScanFronts.j0, if_pos rfl]
  by_cases c1 : (a0.size : Int) > 2000
  · refine ⟨1, fun k hk => ?_⟩
    obtain ⟨k, rfl⟩ : ∃ m, k = m + 1 := ⟨k - 1, by omega⟩
    (try dsimp only)
    rw [hf, if_pos c1, hout]
  by_cases c2 : (a1.size : Int) > 2000
  · refine ⟨1, fun k hk => ?_⟩
    obtain ⟨k, rfl⟩ : ∃ m, k = m + 1 := ⟨k - 1, by omega⟩
    (try dsimp only)
    rw [hf, if_neg c1, decide_eq_true c2, hout]
  have hf2 : ∀ k, outlawlaw01_ScanFronts.f k a0 a1 a2 = outlawlaw01_ScanFronts.j0 k a0 a1 a2 false := fun k => by
    rw [hf, if_neg c1, decide_eq_false c2]
  have hv := unq_val (s := a0) (by omega)
  cases hl : litL a0.data.toList with
  | error c =>
    rw [hl] at hv
    obtain ⟨K, hK⟩ := hv
    have hc := (litL_err hl).ne
    refine ⟨K + 1, fun k hk => ?_⟩
    obtain ⟨k, rfl⟩ : ∃ m, k = m + 1 := ⟨k - 1, by omega⟩
    have h1 : scan_Unquote.f k a0 = some (⟨#[]⟩, 0, c) := hK k (by omega)
    (try dsimp only)
    rw [hf2, outlawlaw01_ScanFronts.j0, if_neg Bool.false_ne_true, h1, Option.bind_some]
    dsimp only
    rw [if_neg hc]
  | ok y =>
    obtain ⟨x, t⟩ := y
    obtain ⟨p, rs, hp, hp2, hrs, rfl, hlen, hall, hcut⟩ := litL_ok hl
    have hsz : a0.size = p.length + t.length := by rw [← size_list, hp, List.length_append]
    have hn : a0.size - t.length = p.length := by omega
    have hex : (a0.extract 0 p.length).data.toList = p := by
      rw [front_list, hp, List.take_left]
    have hexs : (a0.extract 0 p.length).size = p.length := by rw [← size_list, hex]
    -- the literal with other bytes behind it
    have hw := unq_val (s := a0.extract 0 p.length ++ a1) (by rw [ByteArray.size_append, hexs]; omega)
    rw [list_app, hex, hall] at hw
    have hn2 : (a0.extract 0 p.length ++ a1).size - a1.data.toList.length = p.length := by
      rw [size_list, ByteArray.size_append, hexs]; omega
    -- the cut
    have hpk := pick_val a2 (p.length : Int) (by omega) (by omega)
    have hr := pick_range a2 (p.length : Int) (by omega)
    obtain ⟨j, hj⟩ : ∃ j : Nat, a2 % (p.length : Int) = (j : Int) := ⟨(a2 % (p.length : Int)).toNat, by omega⟩
    rw [hj] at hr hpk
    have hjl : j < p.length := by omega
    have hcl : (a0.extract 0 j).data.toList = p.take j := by
      rw [front_list, hp, List.take_append_of_le_length (by omega)]
    have hz := unq_val (s := a0.extract 0 j) (by rw [← size_list, hcl, List.length_take]; omega)
    rw [hcl] at hz
    obtain ⟨c, hc, hz⟩ : ∃ c : Int, (c = 3 ∨ c = 6) ∧ Ev (fun k => scan_Unquote.f k (a0.extract 0 j)) (⟨#[]⟩, 0, c) := by
      rcases hcut j hjl with e | e
      · rw [e] at hz; exact ⟨3, .inl rfl, hz⟩
      · rw [e] at hz; exact ⟨6, .inr rfl, hz⟩
    rw [hl] at hv
    obtain ⟨K, hK⟩ := hv
    obtain ⟨K', hK'⟩ := hw
    obtain ⟨K'', hK''⟩ := hz
    refine ⟨K + K' + K'' + 2, fun k hk => ?_⟩
    obtain ⟨k, rfl⟩ : ∃ m, k = m + 2 := ⟨k - 2, by omega⟩
    have h1 : scan_Unquote.f (k + 1) a0 = some (mk (encs rs), ((a0.size - t.length : Nat) : Int), 0) := hK _ (by omega)
    have h2 : scan_Unquote.f k (a0.extract 0 p.length ++ a1) = some (mk (encs rs), (((a0.extract 0 p.length ++ a1).size - a1.data.toList.length : Nat) : Int), 0) := hK' k (by omega)
    have h3 : scan_Unquote.f k (a0.extract 0 j) = some (⟨#[]⟩, 0, c) := hK'' k (by omega)
    rw [hn] at h1
    rw [hn2] at h2
    (try dsimp only)
    rw [hf2, outlawlaw01_ScanFronts.j0, if_neg Bool.false_ne_true, h1, Option.bind_some]
    dsimp only
    rw [if_pos rfl, if_neg (by omega), decide_eq_false (by omega)]
    rw [outlawlaw01_ScanFronts.j1, if_neg Bool.false_ne_true, if_pos (by omega), if_pos (by omega), Int.toNat_natCast, if_pos (by omega), h2, Option.bind_some, hpk, Option.bind_some, if_pos (by omega), if_pos (by omega), Int.toNat_natCast, h3, Option.bind_some]
    dsimp only
    rw [if_pos rfl, if_pos rfl, if_pos rfl]
    rcases hc with rfl | rfl
    · rw [if_pos rfl]
    · rw [if_neg (by decide)]
      rfl
end Go.Proofs.YtfmenojhojmedaaDoor.Pure
