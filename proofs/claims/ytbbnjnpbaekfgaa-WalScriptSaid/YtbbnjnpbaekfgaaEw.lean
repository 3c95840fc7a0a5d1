/- Lists of acts (number, record, cuts) in memory; which are gone through; copies of texts. -/
import Derived.Test.YtbbnjnpbaekfgaaLq
set_option linter.unusedVariables false
set_option linter.unusedSimpArgs false
namespace Go.Proofs.YtbbnjnpbaekfgaaM
open Go.RowKit
/-- An act. -/
structure ActD where
  kind : Int
  b : ByteArray
  cuts : List Int
/-- The acts that a slice of them leads to. -/
def ActsAt (w : World) (a : Option Addr) (l : List ActD) : Prop := 0 < l.length → ∃ bl of, a = some ⟨bl, of, none⟩ ∧ bl < w.heap.size ∧ ∀ j (h : j < l.length),
  w.cell? ⟨bl, of + j * 3, none⟩ = some (.int .i64 l[j].kind) ∧ w.cell? ⟨bl, of + j * 3 + 1, none⟩ = some (.string l[j].b) ∧
  ∃ ca cc, w.cell? ⟨bl, of + j * 3 + 2, none⟩ = some (.slice ca l[j].cuts.length cc) ∧ IntsAt w (.slice ca l[j].cuts.length cc) l[j].cuts ∧ (ca = none → cc = 0)
theorem ActsAt.below {w w' : World} {a : Option Addr} {l : List ActD} {B : Nat} (h : ActsAt w a l) (hb : Below B w w') (hB : w.heap.size ≤ B) : ActsAt w' a l := fun h0 => by
  obtain ⟨bl, of, e, hl, hc⟩ := h h0
  have hcell : ∀ m, w'.cell? ⟨bl, m, none⟩ = w.cell? ⟨bl, m, none⟩ := fun m => hb.cell (p := ⟨bl, m, none⟩) (by show bl < B; omega)
  refine ⟨bl, of, e, Nat.lt_of_lt_of_le hl hb.size, fun j hj => ?_⟩
  obtain ⟨h1, h2, ca, cc, h4, h5, h6⟩ := hc j hj
  exact ⟨by rw [hcell]; exact h1, by rw [hcell]; exact h2, ca, cc, by rw [hcell]; exact h4, h5.below hb hB, h6⟩
/-- What acts that are gone through fulfil. -/
def LightW (l : List ActD) : Prop := (∀ j (h : j < l.length), l[j].cuts.length ≤ 40) ∧ l.length ≤ 30
/-- A call says whether acts are gone through. -/
def SaysLight (w : World) (l : List ActD) (e : Ending) (w' : World) : Prop := ∃ b, e = .returned (.bool b) ∧ (b = true → LightW l) ∧ Below w.heap.size w w'
attribute [local go_sem] Go.Proofs.YtbbnjnpbaekfgaaW.PrintMore.min2_int Go.Proofs.YtbbnjnpbaekfgaaW.PrintMore.min_two
set_option maxHeartbeats 800000 in
theorem light_acts (a : Option Addr) (l : List ActD) (c : Nat) (w : World) (h : ActsAt w a l) (hl : l.length ≤ 140737488351232) :
    Calls Try.prog 31 #[.slice a l.length c] w (SaysLight w l) := by
  have H := Lib.hid h
  clear h
  go_enter Try.func31, Try.ntmps31
  go_wp2_with fail
  go_loopw [3, 4] (fun nv iv wr => ∃ k m : Nat, k ≤ l.length ∧ iv = .int .i64 (k : Int) ∧ nv = .int .i64 (m : Int) ∧ m ≤ 9000 ∧ Hid (∀ j (h : j < l.length), j < k → l[j].cuts.length ≤ 40) ∧ Hid (Below w.heap.size w wr)) (fun _ iv _ => l.length - (intOf iv).toNat)
  case atStart => exact ⟨0, 0, Nat.zero_le _, rfl, rfl, by omega, fun j _ h => by omega, Below.refl _ _⟩
  case round =>
    obtain ⟨k, m, hk, rfl, rfl, hm, HA, HB⟩ := hrel
    by_cases hlt : k < l.length
    · obtain ⟨bl, of, rfl, hbl, hc⟩ := H.out (by omega)
      obtain ⟨_, hcb, ca, cc, hcc, _, _⟩ := hc k hlt
      obtain ⟨s, hs⟩ : ∃ s, s = l[k].b := ⟨_, rfl⟩
      obtain ⟨cl, hcl⟩ : ∃ m, m = l[k].cuts.length := ⟨_, rfl⟩
      rw [← hs] at hcb
      rw [← hcl] at hcc
      have hcb' : wr.cell? ⟨bl, of + k * 3 + 1, none⟩ = some (.string s) := (HB.out.cell (p := ⟨bl, of + k * 3 + 1, none⟩) hbl).trans hcb
      have hcc' : wr.cell? ⟨bl, of + k * 3 + 2, none⟩ = some (.slice ca cl cc) := (HB.out.cell (p := ⟨bl, of + k * 3 + 2, none⟩) hbl).trans hcc
      have HSS := Lib.hid (And.intro hs hcl)
      clear hc hs hcl hcb hcc
      have hk' : (k : Int) < (l.length : Int) := by omega
      obtain ⟨t, ht⟩ : ∃ t : Nat, t = min s.size 9000 := ⟨_, rfl⟩
      have hti : (if (9000 : Int) < (s.size : Int) then (9000 : Int) else (s.size : Int)) = (t : Int) := by rw [ht]; split <;> omega
      have htl : t ≤ 9000 := by omega
      clear ht
      by_cases hs9 : (m : Int) + (t : Int) ≤ 9000
      · by_cases hc40 : (cl : Int) ≤ 40
        · go_wp2_with fail
          go_roundw
          case rel => exact ⟨k + 1, m + t, by omega, by go_num, by go_num, by omega, fun j hj hjk => by
            by_cases e : j = k
            · subst e
              rw [← HSS.out.2]
              omega
            · exact HA.out j hj (by omega), HB.out⟩
          case measure => simp [intOf]; omega
        · go_wp2_with fail
          go_ret
          exact ⟨_, rfl, fun hb => absurd hb (by decide), HB.out⟩
      · go_wp2_with fail
        go_ret
        exact ⟨_, rfl, fun hb => absurd hb (by decide), HB.out⟩
    · have hk' : ¬ (k : Int) < (l.length : Int) := by omega
      obtain rfl : k = l.length := by omega
      go_wp2_with fail
      go_ret
      refine ⟨_, rfl, fun hb => ⟨fun j hj => HA.out j hj hj, ?_⟩, HB.out⟩
      have := of_decide_eq_true hb
      omega
end Go.Proofs.YtbbnjnpbaekfgaaM
