/- The document's log: Scan, Frame. -/
import Derived.Test.YtbbnjnpbaekfgaaRf
set_option linter.unusedVariables false
set_option linter.unusedSimpArgs false
namespace Go.Proofs.YtbbnjnpbaekfgaaM
open Go.RowKit Go.Proofs.YtbbnjnpbaekfgaaW.PrintMore
theorem secs_drop {D : List UInt8} {k : Nat} (h : k < D.length / 512) : (secs D).drop k = sec D k :: (secs D).drop (k + 1) := by
  have hl : (secs D).length = D.length / 512 := by simp [secs]
  rw [List.drop_eq_getElem_cons (by rw [hl]; exact h)]
  congr 1
  unfold secs
  rw [List.getElem_map, List.getElem_range]
  rfl
theorem secs_end (D : List UInt8) : (secs D).drop (D.length / 512) = [] := List.drop_eq_nil_of_le (by simp [secs])
set_option maxRecDepth 100000 in
set_option maxHeartbeats 3200000 in
theorem rscan_ok (D : List UInt8) (hD : D.length ≤ 600000) (w : World) : Calls Try.prog 32 #[.string (bs D)] w (ScanSays w D) := by
  obtain ⟨i9, hi0, hz0, hz1, hz2⟩ := info_parts info9
  have HI := Lib.hid (And.intro hi0 (And.intro hz0 (And.intro hz1 hz2)))
  clear hi0 hz0 hz1 hz2
  have hsz : (bs D).size = D.length := bs_size D
  obtain ⟨m, hm⟩ : ∃ m, m = D.length / 512 := ⟨_, rfl⟩
  obtain ⟨dl, hdl⟩ : ∃ dl, dl = D.length := ⟨_, rfl⟩
  have HSE := Lib.hid (And.intro (bs_sec D) (And.intro hm hdl))
  rw [← hdl] at hsz hD hm
  have HM := Lib.hid hm
  clear hdl hm
  go_enter Try.func32, Try.ntmps32
  go_wp2_with fail
  go_loopw [4, 5, 6, 7] (fun rv ev sv iv wr => ∃ (k : Nat) (R : List (List UInt8)) (A : List UInt8) (F : Nat), k ≤ m ∧ iv = .int .i64 (k : Int) ∧ ev = .int .i64 (F : Int) ∧ sv = .string (bs A) ∧ Hid (wr.ownsRow w.heap.size 9 1 rv R.length (strs R)) ∧ Hid (found D = scanL k ((secs D).drop k) ⟨R, A, F⟩ ∧ A.length ≤ k * 493 ∧ R.length ≤ k) ∧ Hid (Below w.heap.size w wr)) (fun _ _ _ iv _ => m - (intOf iv).toNat)
  case atStart => exact ⟨0, [], [], 0, Nat.zero_le _, rfl, rfl, rfl, World.ownsRow_nil _ _ _ _, ⟨rfl, by simp, by simp⟩, Below.refl _ _⟩
  case round =>
    obtain ⟨k, R, A, F, hk, rfl, rfl, rfl, HO, HF, HW⟩ := hrel
    obtain ⟨wi, rfl⟩ : ∃ wi, wi = wr := ⟨wr, rfl⟩
    have hk9 : k ≤ 1200 := by have := HM.out; omega
    by_cases hlt : k < m
    · have hmd : m * 512 ≤ dl := by have := HM.out; omega
      have hk0 : (0 : Int) ≤ (k : Int) := by omega
      have b0 : (0 : Int) ≤ (k : Int) * 512 := by omega
      have b1 : (k : Int) * 512 ≤ ((k : Int) + 1) * 512 := by omega
      have b2 : ((k : Int) + 1) * 512 ≤ (dl : Int) := by omega
      have b4 : IntKind.i64.wrap ((k : Int) * 512) = (k : Int) * 512 := by rw [IntKind.wrap_i64]; omega
      have b6 : IntKind.i64.wrap (((k : Int) + 1) * 512) = ((k : Int) + 1) * 512 := by rw [IntKind.wrap_i64]; omega
      have b10 : IntKind.i64.wrap ((k : Int) + 1) = (k : Int) + 1 := by rw [IntKind.wrap_i64]; omega
      have hsl := run_slice_string (P := Try.prog) wi 9 (bs D) .i64 .i64 ((k : Int) * 512) (((k : Int) + 1) * 512) Try.underlying9 b0 b1 (by rw [hsz]; exact b2)
      rw [show ((k : Int) * 512).toNat = k * 512 by omega, show (((k : Int) + 1) * 512).toNat = (k + 1) * 512 by omega, HSE.out.1 k] at hsl
      have hsk : (sec D k).length = 512 := by
        have := HSE.out.2.2
        unfold sec
        rw [List.length_take, List.length_drop]
        omega
      have HOF := Lib.hid (rof_ok k (by omega) (sec D k) hsk wi)
      have HSD := Lib.hid (secs_drop (D := D) (k := k) (by rw [← HSE.out.2.1]; exact hlt))
      have b3 : (k : Int) * 512 ≤ 614400 := by omega
      have hb12 : ((k : Int) + 1) * 512 ≤ 614912 := by omega
      clear hsk hmd b0 b1
      go_wp2_with fail
      refine HOF.out.mono ?_
      rintro e w1 ⟨p, lb, b, rfl, hy, hn, hb1⟩
      have HB1 := Lib.hid (HW.out.trans (hb1.mono HW.out.size))
      have HO1 := Lib.hid (own_below HO.out hb1)
      clear hb1 hsl HOF
      cases b with
      | false =>
        have hf := HF.out.1
        rw [HSD.out, scanL_bad (hn rfl)] at hf
        have HF2 := Lib.hid hf
        clear hf hy hn
        go_wp2_with fail
        go_ret2
        exact ⟨u4, by rw [HF2.out]; rfl, by rw [HF2.out]; exact HO1.out, HB1.out⟩
      | true =>
        have hy := hy rfl
        have hf := HF.out.1
        rw [HSD.out, scanL_good hy] at hf
        have hp := (readS_some hy).2.1
        have hA := HF.out.2.1
        have hR := HF.out.2.2
        have hap : bs A ++ bs p = bs (A ++ p) := bs_append A p
        have hs1 : (bs A).size = A.length := bs_size A
        have hs2 : (bs p).size = p.length := bs_size p
        obtain ⟨A2, hA2⟩ : ∃ A2, A2 = A ++ p := ⟨_, rfl⟩
        rw [← hA2] at hap
        have hl2 : A2.length = A.length + p.length := by rw [hA2, List.length_append]
        have ha493 : A.length ≤ 591600 := by omega
        cases lb with
        | false =>
          have HF2 := Lib.hid (show found D = scanL (k + 1) ((secs D).drop (k + 1)) ⟨R, A2, F⟩ ∧ A2.length ≤ (k + 1) * 493 ∧ R.length ≤ k + 1 from ⟨by rw [hf, hA2]; rfl, by omega, by omega⟩)
          clear hf hy hn hA2 hl2 hA hR
          go_wp2_with fail
          go_roundw
          case rel => exact ⟨k + 1, R, A2, F, by omega, by go_num, rfl, rfl, HO1.out, HF2.out, HB1.out⟩
          case measure => simp [intOf]; omega
        | true =>
          have HF2 := Lib.hid (show found D = scanL (k + 1) ((secs D).drop (k + 1)) ⟨R ++ [A2], [], k + 1⟩ ∧ (R ++ [A2]).length ≤ k + 1 from ⟨by rw [hf, hA2]; rfl, by simp; omega⟩)
          have HN1 := Lib.hid (show ∀ j u, ([.string (bs A2)] : List Value)[j]? = some u → (w1.alloc (.cells [Value.string (bs A2)].toArray 9)).cell? ((⟨w1.heap.size, 0, none⟩ : Addr).add j) = some u from cell_one_new _ _ _)
          have hw1 : w.heap.size ≤ w1.heap.size := HB1.out.size
          clear hf hy hn hA2 hl2 hA
          go_wp2_with (at_builtin; (refine wpList_append_lies _ rfl _ _ 34 rfl w.heap.size 9 i9 (.string ⟨#[]⟩) 1 16 Try.underlying34 HI.out.1 HI.out.2.1 HI.out.2.2.1 HI.out.2.2.2 rfl (by decide) u4 R.length (strs R) rfl (HO1.out.alloc _) ⟨w1.heap.size, 0, none⟩ 1 1 [.string (bs A2)] rfl rfl HN1.out (by intro u hu; rw [List.mem_singleton.1 hu]; rfl) (by omega) (by unfold maxLen; omega) (by omega) (by simp; omega) (w1.heap.size + 1) (by simp) ?_; intro gg cc wx hown hgrow hat1 hlt1))
          have HZ := Lib.hid (And.intro hown ((HB1.out.alloc (by omega) (.cells [Value.string (bs A2)].toArray 9)).grown hgrow (by simp; omega) fun j hj => (HO1.out.lt j hj).1))
          clear hown hgrow hat1 hlt1
          go_wp2_with fail
          go_roundw
          case rel => exact ⟨k + 1, R ++ [A2], [], k + 1, by omega, by go_num, by go_num, rfl, show World.ownsRow _ _ _ _ _ _ _ by rw [strs_append, List.length_append]; exact HZ.out.1, ⟨HF2.out.1, by simp, HF2.out.2⟩, HZ.out.2⟩
          case measure => simp [intOf]; omega
    · have hk' : ¬ ((k : Int) + 1) * 512 ≤ (dl : Int) := by have := HM.out; omega
      obtain rfl : k = m := by omega
      have b6 : IntKind.i64.wrap (((k : Int) + 1) * 512) = ((k : Int) + 1) * 512 := by rw [IntKind.wrap_i64]; omega
      go_wp2_with fail
      go_ret2
      have hf := HF.out.1
      rw [HSE.out.2.1, secs_end] at hf
      exact ⟨u4, by rw [hf]; rfl, by rw [hf]; exact HO.out, HW.out⟩
end Go.Proofs.YtbbnjnpbaekfgaaM
