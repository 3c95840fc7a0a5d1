/- own answers what it was given. -/
import Derived.Test.YtfgibjkgiolonaaTm
import Derived.Test.YtfgibjkgiolonaaPAx7
set_option linter.unusedVariables false
set_option linter.unusedSimpArgs false
namespace Go.Proofs.YtfgibjkgiolonaaS
open Go.RowKit Go.Proofs.YtfgibjkgiolonaaW.PrintWords Go.Proofs.YtfgibjkgiolonaaW.PrintLast Go.Proofs.YtfgibjkgiolonaaW.PrintMore Go.Proofs.YtfgibjkgiolonaaX Go.Proofs.Ytfgibjkgiolonaa.PA Go.Proofs.YtfgibjkgiolonaaG Go.Proofs.YtfgibjkgiolonaaI
theorem own_int (x : List Int) (h : x.length ≤ 40) : outlawkit_Own_int.f x = some x := by
 unfold outlawkit_Own_int.f
 simp only [Option.bind_some, List.length_nil, List.nil_append]
 rw [if_pos (by omega)]
theorem set_same (l : List S45) (i : Nat) (hlt : i < l.length) : l.set i (⟨(l[i]).f0, (⟨(l[i]).f1.f0, (l[i]).f1.f1, (l[i]).f1.f2, (l[i]).f1.f3, (l[i]).f1.f4⟩ : S42), (l[i]).f2⟩ : S45) = l := List.set_getElem_self hlt
theorem own_step (bot : ByteArray) (sec : Int) (l : List S45) (k : Nat) (x : Int) (h : x < (l.length : Int)) (h0 : 0 ≤ x) (hf : (rd_T45 l x).f2.length ≤ 40) (hs : l.set x.toNat (⟨(rd_T45 l x).f0, (⟨(rd_T45 l x).f1.f0, (rd_T45 l x).f1.f1, (rd_T45 l x).f1.f2, (rd_T45 l x).f1.f3, (rd_T45 l x).f1.f4⟩ : S42), (rd_T45 l x).f2⟩ : S45) = l) : outlawlaw25_own.l0 (k + 1) x bot sec l = outlawlaw25_own.l0 k (wrap64 (x + 1)) bot sec l := by
 rw [outlawlaw25_own.l0, if_pos h, if_pos h0, own_int _ hf, Option.bind_some, hs]
theorem own_loop (bot : ByteArray) (sec : Int) (l : List S45) (hl : l.length ≤ 310) (hf : ∀ x ∈ l, x.f2.length ≤ 40) : ∀ (d m i : Nat), l.length - i = d → i ≤ l.length → outlawlaw25_own.l0 (m + d + 1) (i : Int) bot sec l = some (bot, sec, l) := by
 intro d
 induction d with
 | zero =>
  intro m i hd hi
  obtain rfl : i = l.length := by omega
  simp only [outlawlaw25_own.l0]
  rw [if_neg (by omega)]
 | succ d ih =>
  intro m i hd hi
  have hlt : i < l.length := by omega
  have hrd : rd_T45 l (i : Int) = l[i] := by
   unfold rd_T45
   simp [List.getD_eq_getElem?_getD, List.getElem?_eq_getElem hlt]
  rw [show m + (d + 1) + 1 = (m + d + 1) + 1 by omega]
  rw [own_step bot sec l (m + d + 1) (i : Int) (by omega) (by omega) (by rw [hrd]; exact hf _ (List.getElem_mem hlt)) (by rw [hrd]; exact set_same l i hlt), show wrap64 ((i : Int) + 1) = ((i + 1 : Nat) : Int) by unfold wrap64; omega]
  exact ih m (i + 1) (by omega) (by omega)
theorem own_ev (bot : ByteArray) (sec : Int) (l : List S45) (hl : l.length ≤ 310) (hf : ∀ x ∈ l, x.f2.length ≤ 40) : EvS (fun k => outlawlaw25_own.f k bot sec l) (bot, sec, l) := by
 refine ⟨l.length + 1, fun k hk => ?_⟩
 obtain ⟨m, rfl⟩ : ∃ m, k = m + l.length + 1 := ⟨k - (l.length + 1), by omega⟩
 show outlawlaw25_own.f _ bot sec l = _
 unfold outlawlaw25_own.f api_Step.f
 simp only [Option.bind_some, List.length_nil, List.nil_append]
 rw [if_pos (by omega)]
 exact own_loop bot sec l hl hf l.length m 0 (by omega) (Nat.zero_le _)
end Go.Proofs.YtfgibjkgiolonaaS
