/- What the chapter's laws do besides: copies of texts; what is known of rows. -/
import Derived.Test.YtbbnjnpbaekfgaaEw
set_option linter.unusedVariables false
set_option linter.unusedSimpArgs false
namespace Go.Proofs.YtbbnjnpbaekfgaaM
open Go.RowKit
theorem row_mono {w : World} {base base' : Nat} {e : TypeId} {size : Nat} {v : Value} {n : Nat} {xs : List Value} (h : w.ownsRow base e size v n xs) (hb : base' ≤ base) : w.ownsRow base' e size v n xs :=
  ⟨h.1, h.2.imp id fun ⟨g, cap, cur, h1, h2, h3⟩ => ⟨g, cap, cur, h1, Nat.le_trans hb h2, h3⟩⟩
theorem row_cap {w : World} {base : Nat} {e : TypeId} {size : Nat} {a : Option Addr} {n n' c : Nat} {xs : List Value} (h : w.ownsRow base e size (.slice a n c) n' xs) : n ≤ c ∧ (a = none → c = 0) := by
  rcases h.2 with ⟨e0, _⟩ | ⟨g', cap', cur, e0, _, _, hnc, _⟩
  · cases e0; exact ⟨Nat.le_refl _, fun _ => rfl⟩
  · cases e0; exact ⟨hnc, fun h => by cases h⟩
theorem ints_own {w : World} {B : Nat} {v : Value} {l : List Int} (h : w.ownsRow B 3 1 v l.length (l.map (Value.int .i64))) : IntsAt w v l := by
  rcases h.2 with ⟨rfl, h0⟩ | ⟨g, cap, cur, rfl, hb, hg, r⟩
  · exact ⟨none, 0, by rw [h0], fun h1 => by omega⟩
  · exact ⟨_, cap, rfl, fun _ => ⟨_, rfl, (Array.getElem?_eq_some_iff.1 hg).1, fun j hj => h.cells (g := g) rfl j _ (by rw [List.getElem?_map, List.getElem?_eq_getElem hj]; rfl)⟩⟩
theorem pending_nil (B p g n : Nat) (v : Value) (D : List UInt8) (w : World) (h : DiskAt w B p g n v D []) :
    Calls Try.prog 24 #[.pointer (some ⟨p, 0, none⟩)] w fun e w' => e = .returned (.int .i64 0) ∧ w = w' := pending B p g n v D [] w h
theorem new_40 (w : World) : Calls Try.prog 13 #[.int .i64 40] w fun e w' => e = .returned (.tuple #[.pointer (some ⟨w.heap.size + 1, 0, none⟩), .int .i64 0]) ∧
      DiskAt w' w.heap.size (w.heap.size + 1) w.heap.size 40 (.slice none 0 0) (zeros (40 * 512)) [] ∧ Below w.heap.size w w' := new_ok 40 (by decide) (by decide) w
theorem pick_4 (a : Int) (w : World) : Calls Try.prog 11 #[.int .i64 a, .int .i64 4] w fun e w' => e = .returned (.int .i64 (pickN a 4 : Int)) ∧ Below w.heap.size w w' := pick_ok a 4 (by decide) (by decide) w
/-- A row that is not the log's is not behind it either. -/
theorem far_fresh {w : World} {B q p g n : Nat} {v vr v' vr' : Value} {D : List UInt8} {P : List (Nat × List UInt8)} {R : List (List UInt8)} {s e : Nat} (h : LogAt w B q p g n v vr D P R s e) {B' t size m : Nat} {u : Value} {xs : List Value} (ho : w.ownsRow B' t size u m xs)
    (hN : ∀ b, u.ownBlock = some b → ¬ LOwn q p g v vr b) (h1 : Fresh w v v') (h2 : Fresh w vr vr') : ∀ b, u.ownBlock = some b → ¬ LOwn q p g v' vr' b := by
  intro b hb
  have hlt := (ho.lt b hb).2
  rintro ((rfl | rfl | e1) | rfl | e1)
  · exact hN _ hb (.inl (.inl rfl))
  · exact hN _ hb (.inl (.inr (.inl rfl)))
  · exact h1.far hlt (fun e2 => hN _ hb (.inl (.inr (.inr e2)))) e1
  · exact hN _ hb (.inr (.inl rfl))
  · exact h2.far hlt (fun e2 => hN _ hb (.inr (.inr e2))) e1
set_option maxHeartbeats 400000 in
theorem own_strs (a : Option Addr) (l : List (List UInt8)) (c : Nat) (w : World) (h : Texts w (.slice a l.length c) l) (hl : l.length ≤ 1000000) (hnil : a = none → c = 0) :
    Calls Try.prog 28 #[.slice a l.length c] w (GivesStrs w l) := by
  obtain ⟨i0, hi0, hz0, hz1, hz2⟩ := info_parts info9
  have HI := Lib.hid (And.intro hi0 (And.intro hz0 (And.intro hz1 hz2)))
  have H := Lib.hid h
  clear hi0 hz0 hz1 hz2 h
  have HE := Lib.hid (show (w.alloc (.cells #[] 9)).ownsRow w.heap.size 9 1 (.slice (some ⟨w.heap.size, 0, none⟩) 0 0) 0 [] from World.ownsRow_made w #[] 0 (Nat.le_refl _) (by unfold maxLen; omega) (by simp))
  cases a with
  | none =>
    obtain rfl := hnil rfl
    have h0 : l.length = 0 := by
      obtain ⟨a', c', e', hh⟩ := H.out
      cases e'
      by_cases h : l.length = 0
      · exact h
      · obtain ⟨ad, e, _⟩ := hh (by omega)
        cases e
    obtain rfl : l = [] := List.eq_nil_of_length_eq_zero h0
    go_enter Try.func28, Try.ntmps28
    go_wp2_with (at_builtin; refine wpList_append_own_none rfl _ _ 34 rfl w.heap.size 9 i0 1 Try.underlying34 HI.out.1 (.slice (some ⟨w.heap.size, 0, none⟩) 0 0) 0 [] rfl HE.out rfl ?_)
    go_ret
    exact ⟨_, rfl, HE.out, (Below.refl w.heap.size w).alloc (Nat.le_refl _) _⟩
  | some ad =>
    have HN := Lib.hid (show ∀ j u, (strs l)[j]? = some u → (w.alloc (.cells #[] 9)).cell? (ad.add j) = some u from fun j u hu => by
      have hjl : j < l.length := by
        have := (List.getElem?_eq_some_iff.1 hu).1
        simpa [strs] using this
      rw [strs_get l j hjl] at hu
      cases hu
      obtain ⟨a', c', e', hh⟩ := H.out
      cases e'
      obtain ⟨ad', e, hal, hc⟩ := hh (by omega)
      cases e
      rw [World.cell?_alloc_lt _ _ _ (by rw [add_block]; exact hal), hc j hjl])
    go_enter Try.func28, Try.ntmps28
    go_wp2_with (at_builtin; refine wpList_append_own _ rfl _ _ 34 rfl w.heap.size 9 i0 (.string ⟨#[]⟩) 1 16 Try.underlying34 HI.out.1 HI.out.2.1 HI.out.2.2.1 HI.out.2.2.2 rfl (by decide) (.slice (some ⟨w.heap.size, 0, none⟩) 0 0) 0 [] rfl HE.out ad l.length c (strs l) rfl (by simp [strs]) HN.out (strs_one l) (by unfold maxLen; omega) (by omega) (by simp) ?_; intro v' w1 hown hgrow _; have HG := Lib.hid (And.intro hown (((Below.refl w.heap.size w).alloc (Nat.le_refl _) (.cells #[] 9)).grown hgrow (by simp) fun k hk => by simp [Value.ownBlock] at hk; omega)); clear hown hgrow)
    go_ret
    refine ⟨_, rfl, ?_, HG.out.2⟩
    have := HG.out.1
    rw [Nat.zero_add, List.nil_append] at this
    exact this
end Go.Proofs.YtbbnjnpbaekfgaaM
