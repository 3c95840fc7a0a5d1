/- Frames at any place: what a log lays, and what the document lays. -/
import Derived.Test.YtbbnjnpbaekfgaaRg
set_option linter.unusedVariables false
set_option linter.unusedSimpArgs false
namespace Go.Proofs.YtbbnjnpbaekfgaaM
open Go.RowKit Go.Proofs.YtbbnjnpbaekfgaaW.PrintMore
attribute [local go_sem ↓] exec_load90 exec_store90 exec_alloc90 exec_conv
attribute [local go_sem] via_alloc90
theorem wrap_add (a k : Nat) (h : a + k < 18446744073709551616) : IntKind.u64.wrap (IntKind.i64.wrap ((a : Int) + (k : Int))) = ((a + k : Nat) : Int) := by
  rw [IntKind.wrap_i64, IntKind.wrap_u64]
  omega
set_option maxRecDepth 100000 in
set_option maxHeartbeats 3200000 in
theorem framedG_ok (x : Int) (a : Nat) (ha : a + 1 < 18446744073709551616) (hx : IntKind.u64.wrap x = (a : Int)) (part : List UInt8) (last : Bool) (hp : part.length ≤ 493) (w : World) :
    Calls Try.prog 52 #[.int .i64 x, .string (bs part), .bool last] w fun e w' => e = .returned (.agg (byteCells (secF a last part)).toArray) ∧ Below w.heap.size w w' := by
  have HB := Lib.hid (Blk.new w (byteCells (zeros 512)) 90)
  have HF := Lib.hid (fill_sec a part last hp)
  have hsz : (bs part).size = part.length := bs_size part
  have HSZ := Lib.hid hsz
  obtain ⟨c2, hc2⟩ : ∃ c2, c2 = splice (splice (byteCells (zeros 512)) 0 (byteCells (be 8 (a + 1)))) 504 (byteCells (be 8 (a + 1))) := ⟨_, rfl⟩
  have HL2 := Lib.hid (show c2.length = 512 ∧ c2[8]? = some (.int .u8 0) by rw [hc2]; exact ⟨fill_len2 a, fill_at8 a⟩)
  rw [← hc2] at HF
  have H2 := Lib.hid hc2
  obtain ⟨R, hR⟩ : ∃ R, R = byteCells (secF a last part) := ⟨_, rfl⟩
  rw [← hR] at HF
  have HR := Lib.hid (show R.length = 512 ∧ ∀ v ∈ R, v.oneCell' = true by rw [hR]; exact ⟨by rw [byteCells_length, secF_length _ _ _ hp], byteCells_one _⟩)
  rw [← hR]
  clear hc2 hR
  have hw1 : IntKind.u64.wrap ((a : Int) + 1) = (a : Int) + 1 := IntWalk.u64_in _ (by omega)
  have HA := Lib.hid ha
  clear ha
  go_enter Try.func52, Try.ntmps52
  go_wp2_with fail
  refine (number_ok w.heap.size 0 8 512 (a + 1) _ 90 (by omega) HA.out _ HB.out (by rw [byteCells_length, zeros_length]; omega)).mono ?_
  rintro e w1 ⟨rfl, hb1, he1⟩
  have HB1 := Lib.hid hb1
  have HE1 := Lib.hid ((Elses.of_new ((Below.refl w.heap.size w).alloc (Nat.le_refl _) _)).trans (he1.mono (T := fun k => w.heap.size ≤ k) fun i (h : i = w.heap.size) => by omega))
  clear hb1 he1
  go_wp2_with fail
  refine (number_ok w.heap.size 504 8 8 (a + 1) _ 90 (by omega) HA.out _ HB1.out (by rw [fill_len1]; omega)).mono ?_
  rintro e w2 ⟨rfl, hb2, he2⟩
  rw [← H2.out] at hb2
  have HB2 := Lib.hid hb2
  have HE2 := Lib.hid (HE1.out.trans (he2.mono (T := fun k => w.heap.size ≤ k) fun i (h : i = w.heap.size) => by omega))
  have hc8 := (hb2.cell 8).trans HL2.out.2
  have hf8 := hb2.frozen 8
  clear hb2 he2 hsz
  have hpi : (part.length : Int) ≤ 493 := by omega
  have hwr : IntKind.u64.wrap ((bs part).size : Int) = (part.length : Int) := by rw [HSZ.out]; exact IntWalk.u64_in _ (by omega)
  cases last
  · have HG := Lib.hid (show splice (splice (c2.set 8 (.int .u8 0)) 9 (byteCells (be 2 part.length))) 11 (byteCells part) = R from HF.out)
    go_wp2_with fail
    refine (number_ok w.heap.size 9 2 503 part.length _ 90 (by omega) (by omega) _ (show Blk w2 w.heap.size (c2.set 8 (.int .u8 0)) 90 by rw [set_self HL2.out.2]; exact HB2.out) (by rw [List.length_set, HL2.out.1]; omega)).mono ?_
    rintro e w3 ⟨rfl, hb3, he3⟩
    have HB3 := Lib.hid hb3
    have HBR := Lib.hid (show Blk (w3.setRow w.heap.size R.toArray) w.heap.size R 90 from hb3.setRow R)
    have HE3 := Lib.hid ((HE2.out).trans (he3.mono (T := fun k => w.heap.size ≤ k) fun i (h : i = w.heap.size) => by omega))
    have hld := via_load90 (w3.setRow w.heap.size R.toArray) w.heap.size 0 R HBR.out.range HR.out.1
    have hst := via_store90_self (w3.setRow w.heap.size R.toArray) w.heap.size R HBR.out HR.out.1 HR.out.2
    clear hb3 he3 hc8 hf8
    go_wp2_with (refine wpList_copy_string rfl _ _ rfl w.heap.size 11 501 501 part rfl rfl (by omega) _ 90 HB3.out (by rw [splice_length' _ _ _ (by rw [byteCells_length, be_length, List.length_set, HL2.out.1]; omega), List.length_set, HL2.out.1]; omega) ?_; rw [HG.out])
    refine bodyPost_ret (v := .agg R.toArray) (res90 hld rfl) rfl ?_
    exact ⟨rfl, (HE3.out.setRow (.inl (Nat.le_refl _)) _).below (Nat.le_refl _) fun i h => h⟩
  · have HG := Lib.hid (show splice (splice (c2.set 8 (.int .u8 1)) 9 (byteCells (be 2 part.length))) 11 (byteCells part) = R from HF.out)
    go_wp2_with fail
    refine (number_ok w.heap.size 9 2 503 part.length _ 90 (by omega) (by omega) _ (HB2.out.set 8 (.int .u8 1)) (by rw [List.length_set, HL2.out.1]; omega)).mono ?_
    rintro e w3 ⟨rfl, hb3, he3⟩
    have HB3 := Lib.hid hb3
    have HBR := Lib.hid (show Blk (w3.setRow w.heap.size R.toArray) w.heap.size R 90 from hb3.setRow R)
    have HE3 := Lib.hid ((HE2.out.set (p := ⟨w.heap.size, 8, none⟩) (.inl (Nat.le_refl _)) _).trans (he3.mono (T := fun k => w.heap.size ≤ k) fun i (h : i = w.heap.size) => by omega))
    have hld := via_load90 (w3.setRow w.heap.size R.toArray) w.heap.size 0 R HBR.out.range HR.out.1
    have hst := via_store90_self (w3.setRow w.heap.size R.toArray) w.heap.size R HBR.out HR.out.1 HR.out.2
    clear hb3 he3 hc8 hf8
    go_wp2_with (refine wpList_copy_string rfl _ _ rfl w.heap.size 11 501 501 part rfl rfl (by omega) _ 90 HB3.out (by rw [splice_length' _ _ _ (by rw [byteCells_length, be_length, List.length_set, HL2.out.1]; omega), List.length_set, HL2.out.1]; omega) ?_; rw [HG.out])
    refine bodyPost_ret (v := .agg R.toArray) (res90 hld rfl) rfl ?_
    exact ⟨rfl, (HE3.out.setRow (.inl (Nat.le_refl _)) _).below (Nat.le_refl _) fun i h => h⟩
attribute [local go_sem] max2_int min2_int max_two min_two
set_option maxRecDepth 100000 in
set_option maxHeartbeats 3200000 in
theorem frameG_ok (x : Int) (a : Nat) (hxa : x = (a : Int)) (ha : a ≤ 9223372036854775807) (r : List UInt8) (hr : r.length ≤ 4400) (w : World) :
    Calls Try.prog 22 #[.int .i64 x, .string (bs r)] w (GivesStrs w (frameS a r)) := by
  obtain ⟨i9, hi0, hz0, hz1, hz2⟩ := info_parts info9
  have HI := Lib.hid (And.intro hi0 (And.intro hz0 (And.intro hz1 hz2)))
  clear hi0 hz0 hz1 hz2
  have hsz : (bs r).size = r.length := bs_size r
  have hnp := needN_pos r.length
  have hnl := needN_le r.length hr
  obtain ⟨n, hn⟩ : ∃ n, n = needN r.length := ⟨_, rfl⟩
  have HNN := Lib.hid hn
  rw [← hn] at hnp hnl
  have ha0 : decide (x < 0) = false := by rw [decide_eq_false_iff_not]; omega
  have hn0 : ((n : Int) == 0) = false := by rw [beq_eq_false_iff_ne]; omega
  have HC := Lib.hid (show ∀ w, Calls Try.prog 23 #[.int .i64 (r.length : Int)] w fun e w' => e = .returned (.int .i64 (n : Int)) ∧ w = w' from fun w => by rw [hn]; exact need_ok r.length hr w)
  clear hn
  have HA := Lib.hid (And.intro ha hxa)
  have hx0 : 0 ≤ x := by omega
  clear ha hxa
  go_enter Try.func22, Try.ntmps22
  go_wp2_with fail
  refine (HC.out _).mono ?_
  rintro e w' ⟨rfl, rfl⟩
  go_wp2_with fail
  go_loopw [6, 20] (fun ov iv wr => ∃ k : Nat, k ≤ n ∧ iv = .int .i64 (k : Int) ∧ Hid (wr.ownsRow w.heap.size 9 1 ov k (strs ((List.range k).map (frameI a r)))) ∧ Hid (Below w.heap.size w wr)) (fun _ iv _ => n - (intOf iv).toNat)
  case atStart => exact ⟨0, Nat.zero_le _, rfl, World.ownsRow_nil _ _ _ _, Below.refl _ _⟩
  case round =>
    obtain ⟨k, hk, rfl, HO, HW⟩ := hrel
    obtain ⟨wi, rfl⟩ : ∃ wi, wi = wr := ⟨wr, rfl⟩
    by_cases hlt : k < n
    · have hk' : (k : Int) < (n : Int) := by omega
      have hk0 : (0 : Int) ≤ (k : Int) := by omega
      have hk9 : (k : Int) ≤ 8 := by omega
      obtain ⟨M, hM⟩ : ∃ M, M = min r.length ((k + 1) * 493) := ⟨_, rfl⟩
      have hmin : (if ((k : Int) + 1) * 493 < (r.length : Int) then ((k : Int) + 1) * 493 else (r.length : Int)) = (M : Int) := by rw [hM]; split <;> omega
      have hcut : (bs r).extract (k * 493) M = bs (partOf r k) := by rw [hM]; exact part_cut r k
      have hM1 : (k : Int) * 493 ≤ (M : Int) := by
        have := HNN.out
        unfold needN at this
        omega
      have hM2 : (M : Int) ≤ (r.length : Int) := by omega
      have hM3 : k * 493 ≤ M := by omega
      obtain ⟨l, hl⟩ : ∃ l, l = (k + 1 == n) := ⟨_, rfl⟩
      have hlast : ((k : Int) == (n : Int) - 1) = l := by
        rw [hl]
        by_cases e : k + 1 = n
        · rw [beq_iff_eq.2 e, beq_iff_eq.2 (by omega)]
        · rw [beq_eq_false_iff_ne.2 e, beq_eq_false_iff_ne.2 (by omega)]
      obtain ⟨y, hy⟩ : ∃ y, y = IntKind.i64.wrap (x + (k : Int)) := ⟨_, rfl⟩
      have hy1 : IntKind.i64.wrap (x + (k : Int)) = y := hy.symm
      have hy2 : wrap64 (x + (k : Int)) = y := (IntWalk.i64_left _).symm.trans hy.symm
      have HFR := Lib.hid (show ∀ w, Calls Try.prog 52 #[.int .i64 y, .string (bs (partOf r k)), .bool l] w fun e w' => e = .returned (.agg (byteCells (frameI a r k)).toArray) ∧ Below w.heap.size w w' from fun w => by
        have := framedG_ok y (a + k) (by have := HA.out.1; omega) (by rw [hy, HA.out.2]; exact wrap_add a k (by have := HA.out.1; omega)) (partOf r k) l (partOf_le r k) w
        rw [hl, HNN.out] at this ⊢
        exact this)
      clear hy
      have hM0 : (0 : Int) ≤ (k : Int) * 493 := by omega
      have hsl : ∀ wx, (Instr.slice 9 (.string (bs r)) (some (.int .i64 ((k : Int) * 493))) (some (.int .i64 (M : Int))) none).run Try.prog wx = .ok (.string (bs (partOf r k))) wx := fun wx => by
        rw [run_slice_string_if wx 9 (bs r) .i64 .i64 _ _ Try.underlying9, if_pos (by rw [bs_size]; omega), if_pos (by omega), show ((k : Int) * 493).toNat = k * 493 by omega, Int.toNat_natCast, hcut]
      clear hM hl hcut
      go_wp2_with fail
      refine (HFR.out _).mono ?_
      rintro e w1 ⟨rfl, hw1⟩
      obtain ⟨F, hF⟩ : ∃ F, F = frameI a r k := ⟨_, rfl⟩
      have hFl : F.length = 512 := by rw [hF]; exact frameI_length a r k
      have HF := Lib.hid (And.intro hF hFl)
      rw [← hF]
      have hst := via_store_new 90 90 w1 (byteCells (zeros 512)) (byteCells F) (by rw [byteCells_length, byteCells_length, zeros_length, hFl]) (by rw [byteCells_length, hFl]; exact size90) (byteCells_one _)
      have hcv := conv_cells (w := w1.alloc (.cells (byteCells F).toArray 90)) (a := ⟨w1.heap.size, 0, none⟩) (l := F) (c := 512) fun j u hu => by
        rw [addr_add, Nat.zero_add, (Blk.new w1 (byteCells F) 90).cell]
        exact hu
      rw [hFl] at hcv
      have hsz1 := hw1.size
      have hszw := HW.out.size
      have HO1 := Lib.hid (ownsRow_kept HO.out (Elses.of_below' (S := fun k => wi.heap.size ≤ k) hw1) fun j hj => by have := (HO.out.lt j hj).2; omega)
      have HW1 := Lib.hid (HW.out.trans (hw1.mono hszw))
      have HN := Lib.hid (show ∀ j u, ([.string (bs F)] : List Value)[j]? = some u → ((w1.alloc (.cells (byteCells F).toArray 90)).alloc (.cells [Value.string (bs F)].toArray 9)).cell? ((⟨w1.heap.size + 1, 0, none⟩ : Addr).add j) = some u from fun j u hu => by
        have := (Blk.new (w1.alloc (.cells (byteCells F).toArray 90)) [.string (bs F)] 9).cell j
        rw [World.size_alloc] at this
        rw [addr_add, Nat.zero_add, this]
        exact hu)
      clear hF hFl hw1 hmin hM1 hM2 hM3 hM0 hlast hsl
      go_wp2_with (at_builtin; refine wpList_append_lies _ rfl _ _ 34 rfl w.heap.size 9 i9 (.string ⟨#[]⟩) 1 16 Try.underlying34 HI.out.1 HI.out.2.1 HI.out.2.2.1 HI.out.2.2.2 rfl (by decide) u6 k (strs ((List.range k).map (frameI a r))) rfl ((HO1.out.alloc _).alloc _) ⟨w1.heap.size + 1, 0, none⟩ 1 1 [.string (bs F)] rfl rfl HN.out (by intro u hu; rw [List.mem_singleton.1 hu]; rfl) (by omega) (by unfold maxLen; omega) (by omega) (by simp; omega) (w1.heap.size + 2) (by simp) ?_; intro gg cc w6 hown hgrow hat1 hlt1)
      have HZ := Lib.hid (And.intro hown (((HW1.out.alloc (by omega) (.cells (byteCells F).toArray 90)).alloc (by simp; omega) (.cells [Value.string (bs F)].toArray 9)).grown hgrow (by simp; omega) fun j hj => (HO1.out.lt j hj).1))
      clear hown hgrow hat1 hlt1
      go_roundw
      case rel => exact ⟨k + 1, by omega, by go_num, show World.ownsRow _ _ _ _ _ _ _ by rw [List.range_succ, List.map_append, strs_append, show (List.map (frameI a r) [k]) = [F] by rw [HF.out.1]; rfl]; exact HZ.out.1, HZ.out.2⟩
      case measure => simp [intOf]; omega
    · have hk' : ¬ (k : Int) < (n : Int) := by omega
      obtain rfl : k = n := by omega
      go_wp2
      go_ret
      refine ⟨_, rfl, ?_, HW.out⟩
      have := HO.out
      rw [HNN.out] at this
      rw [frameS_length]
      exact this
theorem frame_no (x : Int) (s : ByteArray) (h : x < 0 ∨ 4400 < s.size) (w : World) : Calls Try.prog 22 #[.int .i64 x, .string s] w fun e w' => e = .returned (.slice none 0 0) ∧ w = w' := by
  by_cases hs : s.size ≤ 4400
  · have hx : decide (x < 0) = true := by rw [decide_eq_true_eq]; omega
    have HC := Lib.hid (need_ok s.size hs)
    clear h hs
    go_enter Try.func22, Try.ntmps22
    go_wp2_with fail
    refine (HC.out _).mono ?_
    rintro e w' ⟨rfl, rfl⟩
    go_wp2_with fail
    go_ret
    exact ⟨rfl, rfl⟩
  · have HC := Lib.hid (need_no (s.size : Int) (.inr (by omega)))
    clear h hs
    cases hx : decide (x < 0)
    all_goals
      go_enter Try.func22, Try.ntmps22
      go_wp2_with fail
      refine (HC.out _).mono ?_
      rintro e w' ⟨rfl, rfl⟩
      go_wp2_with fail
      go_ret
      exact ⟨rfl, rfl⟩
theorem rframe_no (x : Int) (s : ByteArray) (h : x < 0 ∨ 4400 < s.size) (w : World) : Calls Try.prog 34 #[.int .i64 x, .string s] w fun e w' => e = .returned (.slice none 0 0) ∧ w = w' := by
  by_cases hs : s.size ≤ 4400
  · have hx : decide (x < 0) = true := by rw [decide_eq_true_eq]; omega
    clear h hs
    go_enter Try.func34, Try.ntmps34
    go_wp2_with fail
    go_ret
    exact ⟨rfl, rfl⟩
  · have hs1 : decide (4400 < (s.size : Int)) = true := by rw [decide_eq_true_eq]; omega
    clear h hs
    cases hx : decide (x < 0)
    all_goals
      go_enter Try.func34, Try.ntmps34
      go_wp2_with fail
      go_ret
      exact ⟨rfl, rfl⟩
set_option maxRecDepth 100000 in
set_option maxHeartbeats 3200000 in
theorem rframe_ok (x : Int) (a : Nat) (hxa : x = (a : Int)) (ha : a ≤ 9223372036854775807) (r : List UInt8) (hr : r.length ≤ 4400) (w : World) :
    Calls Try.prog 34 #[.int .i64 x, .string (bs r)] w (GivesStrs w (frameS a r)) := by
  obtain ⟨i9, hi0, hz0, hz1, hz2⟩ := info_parts info9
  have HI := Lib.hid (And.intro hi0 (And.intro hz0 (And.intro hz1 hz2)))
  clear hi0 hz0 hz1 hz2
  have hsz : (bs r).size = r.length := bs_size r
  have hnp := needN_pos r.length
  have hnl := needN_le r.length hr
  obtain ⟨n, hn⟩ : ∃ n, n = needN r.length := ⟨_, rfl⟩
  have HNN := Lib.hid hn
  rw [← hn] at hnp hnl
  have ha0 : decide (x < 0) = false := by rw [decide_eq_false_iff_not]; omega
  have ha1 : decide (4400 < (r.length : Int)) = false := by rw [decide_eq_false_iff_not]; omega
  have HC := Lib.hid (show ∀ w, Calls Try.prog 33 #[.int .i64 (r.length : Int)] w fun e w' => e = .returned (.int .i64 (n : Int)) ∧ w = w' from fun w => by rw [hn]; exact rneed_ok r.length hr w)
  have HA := Lib.hid (And.intro ha hxa)
  clear hn ha hxa
  go_enter Try.func34, Try.ntmps34
  go_wp2_with fail
  refine (HC.out _).mono ?_
  rintro e w' ⟨rfl, rfl⟩
  go_wp2_with fail
  go_loopw [5, 7] (fun ov iv wr => ∃ k : Nat, k ≤ n ∧ iv = .int .i64 (k : Int) ∧ Hid (wr.ownsRow w.heap.size 9 1 ov k (strs ((List.range k).map (frameI a r)))) ∧ Hid (Below w.heap.size w wr)) (fun _ iv _ => n - (intOf iv).toNat)
  case atStart => exact ⟨0, Nat.zero_le _, rfl, World.ownsRow_nil _ _ _ _, Below.refl _ _⟩
  case round =>
    obtain ⟨k, hk, rfl, HO, HW⟩ := hrel
    obtain ⟨wi, rfl⟩ : ∃ wi, wi = wr := ⟨wr, rfl⟩
    by_cases hlt : k < n
    · have hk' : (k : Int) < (n : Int) := by omega
      have hk0 : (0 : Int) ≤ (k : Int) := by omega
      have hk9 : (k : Int) ≤ 8 := by omega
      obtain ⟨M, hM⟩ : ∃ M, M = min r.length ((k + 1) * 493) := ⟨_, rfl⟩
      have hmin : (if (r.length : Int) < ((k : Int) + 1) * 493 then (r.length : Int) else ((k : Int) + 1) * 493) = (M : Int) := by rw [hM]; split <;> omega
      have hcut : (bs r).extract (k * 493) M = bs (partOf r k) := by rw [hM]; exact part_cut r k
      have hM1 : (k : Int) * 493 ≤ (M : Int) := by
        have := HNN.out
        unfold needN at this
        omega
      have hM2 : (M : Int) ≤ (r.length : Int) := by omega
      have hM3 : k * 493 ≤ M := by omega
      obtain ⟨l, hl⟩ : ∃ l, l = (k + 1 == n) := ⟨_, rfl⟩
      have hlast : ((k : Int) == (n : Int) - 1) = l := by
        rw [hl]
        by_cases e : k + 1 = n
        · rw [beq_iff_eq.2 e, beq_iff_eq.2 (by omega)]
        · rw [beq_eq_false_iff_ne.2 e, beq_eq_false_iff_ne.2 (by omega)]
      obtain ⟨y, hy⟩ : ∃ y, y = IntKind.i64.wrap (x + (k : Int)) := ⟨_, rfl⟩
      have hy1 : IntKind.i64.wrap (x + (k : Int)) = y := hy.symm
      have hy2 : wrap64 (x + (k : Int)) = y := (IntWalk.i64_left _).symm.trans hy.symm
      have HFR := Lib.hid (show ∀ w, Calls Try.prog 57 #[.int .i64 y, .bool l, .string (bs (partOf r k))] w fun e w' => e = .returned (.string (bs (frameI a r k))) ∧ Below w.heap.size w w' from fun w => by
        have := sector_ok y (a + k) (by have := HA.out.1; omega) (by rw [hy, HA.out.2]; exact wrap_add a k (by have := HA.out.1; omega)) l (partOf r k) (partOf_le r k) w
        rw [hl, HNN.out] at this ⊢
        exact this)
      clear hy
      have hM0 : (0 : Int) ≤ (k : Int) * 493 := by omega
      have hsl : ∀ wx, (Instr.slice 9 (.string (bs r)) (some (.int .i64 ((k : Int) * 493))) (some (.int .i64 (M : Int))) none).run Try.prog wx = .ok (.string (bs (partOf r k))) wx := fun wx => by
        rw [run_slice_string_if wx 9 (bs r) .i64 .i64 _ _ Try.underlying9, if_pos (by rw [bs_size]; omega), if_pos (by omega), show ((k : Int) * 493).toNat = k * 493 by omega, Int.toNat_natCast, hcut]
      clear hM hl hcut
      go_wp2_with fail
      refine (HFR.out _).mono ?_
      rintro e w1 ⟨rfl, hw1⟩
      obtain ⟨F, hF⟩ : ∃ F, F = frameI a r k := ⟨_, rfl⟩
      have HF := Lib.hid hF
      rw [← hF]
      have HO1 := Lib.hid (own_below HO.out hw1)
      have HW1 := Lib.hid (HW.out.trans (hw1.mono HW.out.size))
      have hw9 : w.heap.size ≤ w1.heap.size := HW1.out.size
      have HN := Lib.hid (show ∀ j u, ([.string (bs F)] : List Value)[j]? = some u → (w1.alloc (.cells [Value.string (bs F)].toArray 9)).cell? ((⟨w1.heap.size, 0, none⟩ : Addr).add j) = some u from cell_one_new _ _ _)
      clear hF hw1 hmin hM1 hM2 hM3 hM0 hlast hsl
      go_wp2_with (at_builtin; refine wpList_append_lies _ rfl _ _ 34 rfl w.heap.size 9 i9 (.string ⟨#[]⟩) 1 16 Try.underlying34 HI.out.1 HI.out.2.1 HI.out.2.2.1 HI.out.2.2.2 rfl (by decide) u5 k (strs ((List.range k).map (frameI a r))) rfl (HO1.out.alloc _) ⟨w1.heap.size, 0, none⟩ 1 1 [.string (bs F)] rfl rfl HN.out (by intro u hu; rw [List.mem_singleton.1 hu]; rfl) (by omega) (by unfold maxLen; omega) (by omega) (by simp; omega) (w1.heap.size + 1) (by simp) ?_; intro gg cc wx hown hgrow hat1 hlt1)
      have HZ := Lib.hid (And.intro hown ((HW1.out.alloc (by omega) (.cells [Value.string (bs F)].toArray 9)).grown hgrow (by simp; omega) fun j hj => (HO1.out.lt j hj).1))
      clear hown hgrow hat1 hlt1
      go_wp2_with fail
      go_roundw
      case rel => exact ⟨k + 1, by omega, by go_num, show World.ownsRow _ _ _ _ _ _ _ by rw [List.range_succ, List.map_append, strs_append, show (List.map (frameI a r) [k]) = [F] by rw [HF.out]; rfl]; exact HZ.out.1, HZ.out.2⟩
      case measure => simp [intOf]; omega
    · have hk' : ¬ (k : Int) < (n : Int) := by omega
      obtain rfl : k = n := by omega
      go_wp2_with fail
      go_ret
      refine ⟨_, rfl, ?_, HW.out⟩
      have := HO.out
      rw [HNN.out] at this
      rw [frameS_length]
      exact this
end Go.Proofs.YtbbnjnpbaekfgaaM
