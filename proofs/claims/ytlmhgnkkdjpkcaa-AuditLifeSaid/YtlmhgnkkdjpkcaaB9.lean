/- The law AuditLife, walked: up to its loop. -/
import Derived.Test.YtlmhgnkkdjpkcaaP1
import Derived.Test.YtlmhgnkkdjpkcaaP2
import Derived.Test.YtlmhgnkkdjpkcaaPAx2
import Derived.Deep.DeepCutAuto
import Derived.Deep.CutBlock
set_option linter.unusedVariables false
set_option linter.unusedSimpArgs false
namespace Go.Proofs.YtlmhgnkkdjpkcaaG
open Go.RowKit Go.Proofs.Ytlmhgnkkdjpkcaa.PA Go.Proofs.YtlmhgnkkdjpkcaaW.PrintWords Go.Proofs.YtlmhgnkkdjpkcaaW.PrintLast Go.Proofs.YtlmhgnkkdjpkcaaW.PrintMore Go.Proofs.YtlmhgnkkdjpkcaaM Go.Proofs.YtlmhgnkkdjpkcaaV
set_option maxRecDepth 100000 in
theorem lives_true : outlawlaw23_lives.f 40 = some true := by kernel_rfl
set_option maxHeartbeats 1000000 in
theorem pick_any (n m : Int) (w : World) (hm : 1 ≤ m) (hm2 : m ≤ 1000000000) (h1 : -9223372036854775808 ≤ n) (h2 : n ≤ 9223372036854775807) :
    Calls Try.prog 8 #[.int .i64 n, .int .i64 m] w fun e w' => (∃ r : Int, e = .returned (.int .i64 r) ∧ 0 ≤ r ∧ r < m) ∧ w = w' := by
  have hmm : decide (m < 1) = false := by simpa using (by omega : 1 ≤ m)
  have hmz : (m == 0) = false := by simpa using (by omega : m ≠ 0)
  have ht1 : -m < n.tmod m := by have := Int.lt_tmod_of_pos n (by omega : 0 < m); omega
  have ht2 : n.tmod m < m := Int.tmod_lt_of_pos n (by omega)
  by_cases h0 : n.tmod m < 0
  · go_enter Try.func8, Try.ntmps8
    go_wp2_with fail
    go_ret
    exact ⟨⟨_, rfl, by omega, by omega⟩, rfl⟩
  · go_enter Try.func8, Try.ntmps8
    go_wp2_with fail
    go_ret
    exact ⟨⟨_, rfl, by omega, by omega⟩, rfl⟩
theorem run_look {W : World} {E q : Nat} {g : Int → Option Int} {t x : Int} (h : MapV Try.prog 2 W E q (fi g)) (ht : (Lit.int .i64 t).wf = true) (hx : (fi g (.int .i64 t)).getD (.int .i64 0) = .int .i64 x) :
    (Instr.lookup 27 (.map (some E)) (.int .i64 t) false).run Try.prog W = .ok (.int .i64 x) W := by
  rw [h.look1 (Maps.int_keyed Try.underlying2) Try.underlying27 (z3 _) (key2 ht), hx]
theorem World.size_alloc_ (w : World) (o : Obj) : (w.alloc o).heap.size = w.heap.size + 1 := by simp
set_option maxHeartbeats 40000000 in
set_option maxRecDepth 100000 in
theorem auditLife_walk (A : Option Addr) (c : Nat) (l : List S31) (cut : Int) (w : World) (hC : Kd.C k31 w A l.length l) (hc : l.length ≤ c) (hw : ∀ n ∈ l, (Lit.int .i64 n.f1).wf = true) (hcut : (Lit.int .i64 cut).wf = true) :
    Calls Try.prog 3 #[.slice A l.length c, .int .i64 cut] w fun e w' => e = .returned (.bool true) ∧ Below w.heap.size w w' := by
  have HC := Lib.hid (And.intro hC (And.intro hc (And.intro hw hcut)))
  have HCW := Lib.hid (show -9223372036854775808 ≤ cut ∧ cut ≤ 9223372036854775807 by have h := hcut; simp only [Lit.wf, Bool.and_eq_true, decide_eq_true_eq] at h; exact h)
  obtain ⟨KL, hKL⟩ := light_ev l 60 (Kd.C_max hC)
  have HLT := Lib.hid (hKL KL (Nat.le_refl _))
  clear hKL hC hc hw hcut
  obtain ⟨b0, hb0⟩ : ∃ b, (l.all lightB && decide ((l.length : Int) ≤ 60)) = b := ⟨_, rfl⟩
  rw [hb0] at HLT
  have HB0 := Lib.hid hb0
  clear hb0
  go_enter Try.func3, Try.ntmps3
  go_wp2_with fail
  refine (outlawlaw23_lives.calls 40 true _ lives_true).mono ?_
  rintro e w1 ⟨rfl, hb1⟩
  have HB1 := Lib.hid hb1
  clear hb1
  go_wp2_with fail
  refine (outlawkit_LightNotes.calls KL A c l 60 b0 _ (Kd.C_below HC.out.1 HB1.out) HC.out.2.1 HLT.out).mono ?_
  rintro e w2 ⟨rfl, hb2⟩
  have HB2 := Lib.hid (HB1.out.trans (hb2.mono HB1.out.size))
  clear hb2 HB1
  cases b0 with
  | false =>
    go_wp2_with fail
    go_ret
    exact ⟨rfl, HB2.out⟩
  | true =>
    have HLN := Lib.hid (show l.length ≤ 60 by have := HB0.out; simp only [Bool.and_eq_true, decide_eq_true_eq] at this; omega)
    have HOK := Lib.hid (show okN l = true by simp only [okN, Bool.and_eq_true, List.all_eq_true, decide_eq_true_eq]; exact ⟨HC.out.2.2.1, by have := HLN.out; omega⟩)
    have hln := HLN.out
    obtain ⟨at_, hat⟩ : ∃ z, lifeP l 0 0 (fun _ => none) = z := ⟨_, rfl⟩
    have HAT := Lib.hid hat
    have hrg : at_ = -1 ∨ 0 ≤ at_ ∧ at_ < l.length := by have := life_range l 0 0 (fun _ => none); rw [hat] at this; omega
    have HRG := Lib.hid hrg
    have ha1 : decide (at_ < -1) = false := by simpa using (by omega : -1 ≤ at_)
    have ha2 : decide ((l.length : Int) ≤ at_) = false := by simpa using (by omega : at_ < l.length)
    clear hat hrg
    go_wp2_with fail
    refine (audit_Life.calls A c l at_ _ (Kd.C_below HC.out.1 HB2.out) HC.out.2.1 (by unfold audit_Life.f; rw [if_pos HOK.out, HAT.out])).mono ?_
    rintro e w3 ⟨rfl, hb3⟩
    have HB3 := Lib.hid (HB2.out.trans (hb3.mono HB2.out.size))
    clear hb3 HB2
    go_wp2_with fail
    refine (pick_any cut ((l.length : Int) + 1) _ (by omega) (by omega) HCW.out.1 HCW.out.2).mono ?_
    rintro e w' ⟨⟨r, rfl, hr0, hr1⟩, rfl⟩
    obtain ⟨k, rfl⟩ := Int.eq_ofNat_of_zero_le hr0
    have hk : k ≤ l.length := by omega
    have hkc : k ≤ c := by have := HC.out.2.1; omega
    have hkl : (l.take k).length = k := by rw [List.length_take]; omega
    obtain ⟨fr, hfr⟩ : ∃ z, lifeP (l.take k) 0 0 (fun _ => none) = z := ⟨_, rfl⟩
    have hfv : fr = if at_ < 0 ∨ (0 : Int) + k ≤ at_ then -1 else at_ := by rw [← hfr, life_take l k 0 0 _ (by omega), HAT.out]
    have hL := audit_Life.calls A c (l.take k) fr _ (Kd.C_take (Kd.C_below HC.out.1 HB3.out) hk) (by omega) (by unfold audit_Life.f; rw [if_pos (by have := HOK.out; simp only [okN, Bool.and_eq_true, List.all_eq_true, decide_eq_true_eq] at this ⊢; exact ⟨fun x hx => this.1 x (List.mem_of_mem_take hx), by omega⟩), hfr])
    rw [hkl] at hL
    have HL := Lib.hid hL
    have HFV := Lib.hid hfv
    clear hL hfv hfr hkl hr0 hr1
    go_wp2_with fail
    refine HL.out.mono ?_
    rintro e w4 ⟨rfl, hb4⟩
    have HB4 := Lib.hid (HB3.out.trans (hb4.mono HB3.out.size))
    clear hb4 HB3 HL
    have hfr1 : fr = -1 ∨ fr = at_ := by have := HFV.out; split at this; exact .inl this; exact .inr this
    obtain ⟨bb, hbb⟩ : ∃ b, decide (at_ < 0 ∨ (k : Int) ≤ at_) = b := ⟨_, rfl⟩
    have HBB := Lib.hid hbb
    have HFR := Lib.hid (show fr = if bb = true then -1 else at_ by have := HFV.out; rw [← hbb]; simpa using this)
    clear hbb hfr1
    go_upto_region 10 with fail
    go_cut [43] (fun t43 wx => t43 = .bool bb ∧ wx = w4)
    case first =>
      by_cases h1 : at_ < 0
      · have hd1 : decide (at_ < 0) = true := by simpa using h1
        have hbb := HBB.out
        rw [decide_eq_true (.inl h1)] at hbb
        subst hbb
        go_wp2_with fail
        go_meet
        exact ⟨rfl, rfl⟩
      · have hd1 : decide (at_ < 0) = false := by simpa using h1
        by_cases h2 : (k : Int) ≤ at_
        · have hd2 : decide ((k : Int) ≤ at_) = true := by simpa using h2
          have hbb := HBB.out
          rw [decide_eq_true (.inr h2)] at hbb
          subst hbb
          go_wp2_with fail
          go_meet
          exact ⟨rfl, rfl⟩
        · have hd2 : decide ((k : Int) ≤ at_) = false := by simpa using h2
          have hbb := HBB.out
          rw [decide_eq_false (by omega)] at hbb
          subst hbb
          go_wp2_with fail
          go_meet
          exact ⟨rfl, rfl⟩
    case rest =>
      obtain ⟨rfl, rfl⟩ := hcut
      go_upto_if 43 with fail
      go_cut [7] (fun t7 wx => t7 = .int .i64 fr ∧ wx = wc)
      case first =>
        cases bb with
        | true =>
          have hf := HFR.out
          rw [if_pos rfl] at hf
          subst hf
          go_wp2_with fail
          go_meet
          exact ⟨rfl, rfl⟩
        | false =>
          have hf := HFR.out
          rw [if_neg Bool.false_ne_true] at hf
          subst hf
          go_wp2_with fail
          go_meet
          exact ⟨rfl, rfl⟩
      case rest =>
        obtain ⟨rfl, hww⟩ := hcut
        subst hww
        obtain ⟨m, hm⟩ : ∃ m : Nat, m = if at_ < 0 then l.length else at_.toNat := ⟨_, rfl⟩
        have HM := Lib.hid hm
        clear hm
        go_upto_region 15 with fail
        obtain ⟨ba, hba⟩ : ∃ b, decide (0 ≤ at_) = b := ⟨_, rfl⟩
        have HBA := Lib.hid hba
        go_upto_if 50 with fail
        clear hba
        go_cut [0] (fun t0 wx => t0 = .slice A m c ∧ wx = wc)
        case first =>
          cases ba with
          | true =>
            have h0 : 0 ≤ at_ := of_decide_eq_true HBA.out
            obtain ⟨z, rfl⟩ := Int.eq_ofNat_of_zero_le h0
            have hm : m = z := by have := HM.out; rw [if_neg (by omega)] at this; omega
            subst hm
            have hzc : m ≤ c := by have := HRG.out; have := HC.out.2.1; omega
            go_wp2_with fail
            go_meet
            exact ⟨rfl, rfl⟩
          | false =>
            have h0 : at_ < 0 := by have := of_decide_eq_false HBA.out; omega
            have hm : m = l.length := by have := HM.out; rw [if_pos h0] at this; exact this
            subst hm
            go_wp2_with fail
            go_meet
            exact ⟨rfl, rfl⟩
        case rest =>
          obtain ⟨rfl, hww⟩ := hcut
          subst hww
          have hml : m ≤ l.length := by have h1 := HM.out; have h2 := HRG.out; split at h1 <;> omega
          have hmm := @run_makeMap Try.prog
          go_wp2_with fail
          have HW0 := Lib.hid (show Below w.heap.size w ((wc.alloc (.map #[] 0)).alloc (.map #[] 0)) from (HB4.out.alloc HB4.out.size _).alloc (by have := HB4.out.size; simp; omega) _)
          have HME := Lib.hid (show MapV Try.prog 2 ((wc.alloc (.map #[] 0)).alloc (.map #[] 0)) wc.heap.size 0 (fi fun _ => none) from ((MapV.made Try.prog 2 wc).alloc _).congr (fun l _ => by unfold fi; split <;> rfl))
          have HMS := Lib.hid (show MapV Try.prog 2 ((wc.alloc (.map #[] 0)).alloc (.map #[] 0)) (wc.heap.size + 1) 0 (fi fun _ => none) from by
            have h := MapV.made Try.prog 2 (wc.alloc (.map #[] 0))
            simp only [World.size_alloc_ (wc)] at h
            exact h.congr (fun l _ => by unfold fi; split <;> rfl))
          have HEW := Lib.hid (show w.heap.size ≤ wc.heap.size from HB4.out.size)
          clear hmm
          go_wp2_with fail
          generalize (wc.alloc (Obj.map #[] 0)).alloc (Obj.map #[] 0) = w5 at HW0 HME HMS ⊢
          generalize wc.heap.size = E at HME HMS HEW ⊢
          go_loopw [10, 11] (fun v10 v11 wr => ∃ (i opn last : Int) (f : Int → Option (S29 × Bool)) (ge gs : Int → Option Int), v10 = .int .i64 opn ∧ v11 = .int .i64 i ∧ 0 ≤ i ∧ i ≤ m ∧ Hid (Below w.heap.size w wr ∧ MapV Try.prog 2 wr E i.toNat (fi ge) ∧ MapV Try.prog 2 wr (E + 1) i.toNat (fi gs) ∧ InvA (l.take i.toNat) last f ge gs opn ∧ Runs (l.take i.toNat) last f))
            (fun _ v _ => m - (intOf v).toNat)
          case atStart => exact ⟨0, 0, 0, _, _, _, rfl, rfl, by omega, by omega, Lib.hid ⟨HW0.out, HME.out, HMS.out, InvA.start, Runs.nil⟩⟩
          case round =>
            obtain ⟨i, opn, last, f, ge, gs, rfl, rfl, h0, hi, HX⟩ := hrel
            have hob : 0 ≤ opn ∧ opn ≤ 60 := by
              obtain ⟨L, _, _, c3, c4⟩ := HX.out.2.2.2.1.cnt
              rw [List.length_take] at c4
              omega
            obtain ⟨ho1, ho2⟩ := hob
            by_cases hlt : i < (m : Int)
            · have hll : i < (l.length : Int) := by omega
              have hi1 : (i + 1).toNat = i.toNat + 1 := by omega
              have HD := Lib.hid (take_snoc l i h0 hll)
              have HCr := Lib.hid (Kd.C_below HC.out.1 HX.out.1)
              have HWF := Lib.hid (show (Lit.int .i64 (rd_T31 l i).f1).wf = true from HC.out.2.2.1 _ (List.mem_of_mem_take (i := (i + 1).toNat) (by rw [HD.out]; simp)))
              have hrun : ∃ l' f', Runs (l.take (i + 1).toNat) l' f' := by
                have := life_runs l [] 0 (fun _ => none) Runs.nil (i + 1).toNat (by omega) (by
                  have h1 := HM.out
                  have h2 := HRG.out
                  rw [List.length_nil]
                  show lifeP l 0 0 (fun _ => none) = -1 ∨ _ ≤ lifeP l 0 0 (fun _ => none)
                  rw [HAT.out]
                  split at h1
                  · exact .inl (by omega)
                  · exact .inr (by omega))
                simpa using this
              obtain ⟨l2, f2, hrn⟩ := hrun
              have htk := HX.out.2.2.2.2.step (by rw [← HD.out]; exact hrn)
              have HRN := Lib.hid hrn
              have htc := takes_cases htk
              clear htk hrn
              obtain ⟨ad, e184, hx0, hx1, hx2, hx3, hx4, hx5, hx6, hx7, hx8⟩ := at_T31 HCr.out i h0 hll
              subst e184
              have HS := Lib.hid (show Below w.heap.size w (wr.alloc (.cells #[.int .i64 (rd_T31 l i).f0, .int .i64 (rd_T31 l i).f1, .int .i64 (rd_T31 l i).f2.f0, .string (rd_T31 l i).f2.f1, .string (rd_T31 l i).f2.f2, .string (rd_T31 l i).f2.f3, .string (rd_T31 l i).f2.f4, .int .i64 (rd_T31 l i).f3, .string (rd_T31 l i).f4] 31)) from HX.out.1.alloc HX.out.1.size _)
              rcases htc with ⟨hkk, hz, rfl, rfl⟩ | ⟨hk, h1, rfl, rfl⟩ | ⟨a, s, hf, rfl, ⟨hk, rfl⟩ | ⟨hk, hs, rfl⟩ | ⟨hks, rfl⟩⟩
              · by_cases hk : (rd_T31 l i).f0 = 1
                · have HINV := Lib.hid (HX.out.2.2.2.1.pass (n := rd_T31 l i) (by rw [hk]; decide) (by rw [hk]; rfl))
                  have hs := HS.out
                  rw [hk] at hx0 hs
                  rw [hz] at hx1 hs
                  have HS2 := Lib.hid hs
                  clear hs
                  obtain ⟨x, hx⟩ : ∃ x, (ge 0).getD 0 = x := ⟨_, rfl⟩
                  have HXE := Lib.hid (show (fi ge (.int .i64 0)).getD (.int .i64 0) = .int .i64 x by show ((ge 0).map (Value.int .i64)).getD (.int .i64 0) = _; rw [← hx]; cases ge 0 <;> rfl)
                  clear hx hk hz
                  cases hxx : (x != 0) with
                  | true =>
                    have hlge := run_look (HX.out.2.1.alloc (.cells #[.int .i64 1, .int .i64 0, .int .i64 (rd_T31 l i).f2.f0, .string (rd_T31 l i).f2.f1, .string (rd_T31 l i).f2.f2, .string (rd_T31 l i).f2.f3, .string (rd_T31 l i).f2.f4, .int .i64 (rd_T31 l i).f3, .string (rd_T31 l i).f4] 31)) (t := 0) (by decide) HXE.out
                    go_wp2_with fail
                    go_roundw
                    case rel =>
                      refine ⟨i + 1, opn, l2, f2, ge, gs, rfl, rfl, by omega, by omega, Lib.hid ⟨HS2.out, ?_, ?_, ?_, HRN.out⟩⟩
                      · rw [hi1]; exact (HX.out.2.1.alloc _).mono (by omega)
                      · rw [hi1]; exact (HX.out.2.2.1.alloc _).mono (by omega)
                      · rw [HD.out]; exact HINV.out
                    case measure => simp [intOf]; omega
                  | false =>
                    have hlge := run_look (HX.out.2.1.alloc (.cells #[.int .i64 1, .int .i64 0, .int .i64 (rd_T31 l i).f2.f0, .string (rd_T31 l i).f2.f1, .string (rd_T31 l i).f2.f2, .string (rd_T31 l i).f2.f3, .string (rd_T31 l i).f2.f4, .int .i64 (rd_T31 l i).f3, .string (rd_T31 l i).f4] 31)) (t := 0) (by decide) HXE.out
                    go_wp2_with fail
                    go_roundw
                    case rel =>
                      refine ⟨i + 1, opn, l2, f2, ge, gs, rfl, rfl, by omega, by omega, Lib.hid ⟨HS2.out, ?_, ?_, ?_, HRN.out⟩⟩
                      · rw [hi1]; exact (HX.out.2.1.alloc _).mono (by omega)
                      · rw [hi1]; exact (HX.out.2.2.1.alloc _).mono (by omega)
                      · rw [HD.out]; exact HINV.out
                    case measure => simp [intOf]; omega
                by_cases hk : (rd_T31 l i).f0 = 2
                · have HINV := Lib.hid (HX.out.2.2.2.1.pass (n := rd_T31 l i) (by rw [hk]; decide) (by rw [hk]; rfl))
                  have hs := HS.out
                  rw [hk] at hx0 hs
                  rw [hz] at hx1 hs
                  have HS2 := Lib.hid hs
                  clear hs
                  obtain ⟨x, hx⟩ : ∃ x, (ge 0).getD 0 = x := ⟨_, rfl⟩
                  have HXE := Lib.hid (show (fi ge (.int .i64 0)).getD (.int .i64 0) = .int .i64 x by show ((ge 0).map (Value.int .i64)).getD (.int .i64 0) = _; rw [← hx]; cases ge 0 <;> rfl)
                  clear hx hk hz
                  cases hxx : (x != 0) with
                  | true =>
                    have hlge := run_look (HX.out.2.1.alloc (.cells #[.int .i64 2, .int .i64 0, .int .i64 (rd_T31 l i).f2.f0, .string (rd_T31 l i).f2.f1, .string (rd_T31 l i).f2.f2, .string (rd_T31 l i).f2.f3, .string (rd_T31 l i).f2.f4, .int .i64 (rd_T31 l i).f3, .string (rd_T31 l i).f4] 31)) (t := 0) (by decide) HXE.out
                    go_wp2_with fail
                    go_roundw
                    case rel =>
                      refine ⟨i + 1, opn, l2, f2, ge, gs, rfl, rfl, by omega, by omega, Lib.hid ⟨HS2.out, ?_, ?_, ?_, HRN.out⟩⟩
                      · rw [hi1]; exact (HX.out.2.1.alloc _).mono (by omega)
                      · rw [hi1]; exact (HX.out.2.2.1.alloc _).mono (by omega)
                      · rw [HD.out]; exact HINV.out
                    case measure => simp [intOf]; omega
                  | false =>
                    have hlge := run_look (HX.out.2.1.alloc (.cells #[.int .i64 2, .int .i64 0, .int .i64 (rd_T31 l i).f2.f0, .string (rd_T31 l i).f2.f1, .string (rd_T31 l i).f2.f2, .string (rd_T31 l i).f2.f3, .string (rd_T31 l i).f2.f4, .int .i64 (rd_T31 l i).f3, .string (rd_T31 l i).f4] 31)) (t := 0) (by decide) HXE.out
                    go_wp2_with fail
                    go_roundw
                    case rel =>
                      refine ⟨i + 1, opn, l2, f2, ge, gs, rfl, rfl, by omega, by omega, Lib.hid ⟨HS2.out, ?_, ?_, ?_, HRN.out⟩⟩
                      · rw [hi1]; exact (HX.out.2.1.alloc _).mono (by omega)
                      · rw [hi1]; exact (HX.out.2.2.1.alloc _).mono (by omega)
                      · rw [HD.out]; exact HINV.out
                    case measure => simp [intOf]; omega
                by_cases hk : (rd_T31 l i).f0 = 9
                · have HINV := Lib.hid (HX.out.2.2.2.1.pass (n := rd_T31 l i) (by rw [hk]; decide) (by rw [hk]; rfl))
                  have hs := HS.out
                  rw [hk] at hx0 hs
                  rw [hz] at hx1 hs
                  have HS2 := Lib.hid hs
                  clear hs
                  obtain ⟨x, hx⟩ : ∃ x, (ge 0).getD 0 = x := ⟨_, rfl⟩
                  have HXE := Lib.hid (show (fi ge (.int .i64 0)).getD (.int .i64 0) = .int .i64 x by show ((ge 0).map (Value.int .i64)).getD (.int .i64 0) = _; rw [← hx]; cases ge 0 <;> rfl)
                  clear hx hk hz
                  cases hxx : (x != 0) with
                  | true =>
                    have hlge := run_look (HX.out.2.1.alloc (.cells #[.int .i64 9, .int .i64 0, .int .i64 (rd_T31 l i).f2.f0, .string (rd_T31 l i).f2.f1, .string (rd_T31 l i).f2.f2, .string (rd_T31 l i).f2.f3, .string (rd_T31 l i).f2.f4, .int .i64 (rd_T31 l i).f3, .string (rd_T31 l i).f4] 31)) (t := 0) (by decide) HXE.out
                    go_wp2_with fail
                    go_roundw
                    case rel =>
                      refine ⟨i + 1, opn, l2, f2, ge, gs, rfl, rfl, by omega, by omega, Lib.hid ⟨HS2.out, ?_, ?_, ?_, HRN.out⟩⟩
                      · rw [hi1]; exact (HX.out.2.1.alloc _).mono (by omega)
                      · rw [hi1]; exact (HX.out.2.2.1.alloc _).mono (by omega)
                      · rw [HD.out]; exact HINV.out
                    case measure => simp [intOf]; omega
                  | false =>
                    have hlge := run_look (HX.out.2.1.alloc (.cells #[.int .i64 9, .int .i64 0, .int .i64 (rd_T31 l i).f2.f0, .string (rd_T31 l i).f2.f1, .string (rd_T31 l i).f2.f2, .string (rd_T31 l i).f2.f3, .string (rd_T31 l i).f2.f4, .int .i64 (rd_T31 l i).f3, .string (rd_T31 l i).f4] 31)) (t := 0) (by decide) HXE.out
                    go_wp2_with fail
                    go_roundw
                    case rel =>
                      refine ⟨i + 1, opn, l2, f2, ge, gs, rfl, rfl, by omega, by omega, Lib.hid ⟨HS2.out, ?_, ?_, ?_, HRN.out⟩⟩
                      · rw [hi1]; exact (HX.out.2.1.alloc _).mono (by omega)
                      · rw [hi1]; exact (HX.out.2.2.1.alloc _).mono (by omega)
                      · rw [HD.out]; exact HINV.out
                    case measure => simp [intOf]; omega
                omega
              · have hs := HS.out
                rw [hk] at hx0 hs
                have HS2 := Lib.hid hs
                clear hs
                have HINV := Lib.hid (HX.out.2.2.2.1.queue hk h1)
                clear hk h1
                go_wp2_with fail
                go_roundw
                case rel =>
                  refine ⟨i + 1, opn + 1, last + 1, putT f (rd_T31 l i).f1 (some ((rd_T31 l i).f2, false)), ge, gs, rfl, rfl, by omega, by omega, Lib.hid ⟨HS2.out, ?_, ?_, ?_, HRN.out⟩⟩
                  · rw [hi1]; exact (HX.out.2.1.alloc _).mono (by omega)
                  · rw [hi1]; exact (HX.out.2.2.1.alloc _).mono (by omega)
                  · rw [HD.out]; exact HINV.out
                case measure => simp [intOf]; omega
              · have hs := HS.out
                rw [hk] at hx0 hs
                have HS2 := Lib.hid hs
                clear hs
                have HXE := Lib.hid (show (fi ge (.int .i64 (rd_T31 l i).f1)).getD (.int .i64 0) = .int .i64 0 by
                  have h := HX.out.2.2.2.1.ended (rd_T31 l i).f1
                  rw [(HX.out.2.2.2.1.open_not hf).2, if_neg Bool.false_ne_true] at h
                  show ((ge (rd_T31 l i).f1).map (Value.int .i64)).getD (.int .i64 0) = _
                  cases hq : ge (rd_T31 l i).f1 with
                  | none => rfl
                  | some y => rw [hq] at h; simp at h; subst h; rfl)
                have HINV := Lib.hid (HX.out.2.2.2.1.again (u := true) hf (.inl hk))
                clear hk hf
                go_wp2_with (at_mapUpdate; refine wpList_store_map rfl _ _ _ 27 rfl (Maps.int_keyed Try.underlying2) Try.underlying27 (E + 1) i.toNat (fi gs) rfl (HX.out.2.2.1.alloc _) (by unfold maxLen; omega) _ _ rfl (key2 HWF.out) (.int .i64 1) rfl ?_; intro w1 hm1 ht1; have y0 : w1.cell? ⟨wr.heap.size, 0, none⟩ = some (.int .i64 4) := (turned_cell ht1 (show wr.heap.size ≠ (E + 1) by have := HX.out.2.2.1.lt; omega)).trans (by simp); have y1 : w1.cell? ⟨wr.heap.size, 1, none⟩ = some (.int .i64 (rd_T31 l i).f1) := (turned_cell ht1 (show wr.heap.size ≠ (E + 1) by have := HX.out.2.2.1.lt; omega)).trans (by simp); have hlge := run_look (MapV.same (HX.out.2.1.alloc _) (turned_block ht1 (show E ≠ E + 1 by omega))) HWF.out HXE.out; have HM1 := Lib.hid (And.intro hm1 ht1); clear hm1 ht1)
                go_roundw
                case rel =>
                  refine ⟨i + 1, opn, l2, putT f (rd_T31 l i).f1 (some (a, true)), ge, setI gs (rd_T31 l i).f1 (some 1), rfl, rfl, by omega, by omega, Lib.hid ⟨turned_below HS2.out HM1.out.2 (by have := HEW.out; omega), ?_, ?_, ?_, HRN.out⟩⟩
                  · rw [hi1]; exact (MapV.same (HX.out.2.1.alloc _) (turned_block HM1.out.2 (show E ≠ E + 1 by omega))).mono (by omega)
                  · rw [hi1]; exact HM1.out.1.congr (fi_put gs _ _)
                  · rw [HD.out]; exact HINV.out
                case measure => simp [intOf]; omega
              · have hs := HS.out
                rw [hk] at hx0 hs
                have HS2 := Lib.hid hs
                clear hs
                have HXE := Lib.hid (show (fi ge (.int .i64 (rd_T31 l i).f1)).getD (.int .i64 0) = .int .i64 0 by
                  have h := HX.out.2.2.2.1.ended (rd_T31 l i).f1
                  rw [(HX.out.2.2.2.1.open_not hf).2, if_neg Bool.false_ne_true] at h
                  show ((ge (rd_T31 l i).f1).map (Value.int .i64)).getD (.int .i64 0) = _
                  cases hq : ge (rd_T31 l i).f1 with
                  | none => rfl
                  | some y => rw [hq] at h; simp at h; subst h; rfl)
                have HXS := Lib.hid (show (fi gs (.int .i64 (rd_T31 l i).f1)).getD (.int .i64 0) = .int .i64 1 by
                  have h := HX.out.2.2.2.1.sent (rd_T31 l i).f1 a s hf
                  rw [if_pos hs] at h
                  show ((gs (rd_T31 l i).f1).map (Value.int .i64)).getD (.int .i64 0) = _
                  cases hq : gs (rd_T31 l i).f1 with
                  | none => rw [hq] at h; simp at h
                  | some y => rw [hq] at h; simp at h; subst h; rfl)
                have HINV := Lib.hid (HX.out.2.2.2.1.again (u := false) hf (.inr hk))
                clear hk hf hs
                have hlgs := run_look (HX.out.2.2.1.alloc (.cells #[.int .i64 6, .int .i64 (rd_T31 l i).f1, .int .i64 (rd_T31 l i).f2.f0, .string (rd_T31 l i).f2.f1, .string (rd_T31 l i).f2.f2, .string (rd_T31 l i).f2.f3, .string (rd_T31 l i).f2.f4, .int .i64 (rd_T31 l i).f3, .string (rd_T31 l i).f4] 31)) HWF.out HXS.out
                go_wp2_with (at_mapUpdate; refine wpList_store_map rfl _ _ _ 27 rfl (Maps.int_keyed Try.underlying2) Try.underlying27 (E + 1) i.toNat (fi gs) rfl (HX.out.2.2.1.alloc _) (by unfold maxLen; omega) _ _ rfl (key2 HWF.out) (.int .i64 0) rfl ?_; intro w1 hm1 ht1; have y0 : w1.cell? ⟨wr.heap.size, 0, none⟩ = some (.int .i64 6) := (turned_cell ht1 (show wr.heap.size ≠ (E + 1) by have := HX.out.2.2.1.lt; omega)).trans (by simp); have y1 : w1.cell? ⟨wr.heap.size, 1, none⟩ = some (.int .i64 (rd_T31 l i).f1) := (turned_cell ht1 (show wr.heap.size ≠ (E + 1) by have := HX.out.2.2.1.lt; omega)).trans (by simp); have hlge := run_look (MapV.same (HX.out.2.1.alloc _) (turned_block ht1 (show E ≠ E + 1 by omega))) HWF.out HXE.out; have HM1 := Lib.hid (And.intro hm1 ht1); clear hm1 ht1)
                go_roundw
                case rel =>
                  refine ⟨i + 1, opn, l2, putT f (rd_T31 l i).f1 (some (a, false)), ge, setI gs (rd_T31 l i).f1 (some 0), rfl, rfl, by omega, by omega, Lib.hid ⟨turned_below HS2.out HM1.out.2 (by have := HEW.out; omega), ?_, ?_, ?_, HRN.out⟩⟩
                  · rw [hi1]; exact (MapV.same (HX.out.2.1.alloc _) (turned_block HM1.out.2 (show E ≠ E + 1 by omega))).mono (by omega)
                  · rw [hi1]; exact HM1.out.1.congr (fi_put gs _ _)
                  · rw [HD.out]; exact HINV.out
                case measure => simp [intOf]; omega
              · rcases hks with ⟨hk | hk, hs⟩ | ⟨hk, hs⟩
                · have hs := HS.out
                  rw [hk] at hx0 hs
                  have HS2 := Lib.hid hs
                  clear hs
                  have HXE := Lib.hid (show (fi ge (.int .i64 (rd_T31 l i).f1)).getD (.int .i64 0) = .int .i64 0 by
                    have h := HX.out.2.2.2.1.ended (rd_T31 l i).f1
                    rw [(HX.out.2.2.2.1.open_not hf).2, if_neg Bool.false_ne_true] at h
                    show ((ge (rd_T31 l i).f1).map (Value.int .i64)).getD (.int .i64 0) = _
                    cases hq : ge (rd_T31 l i).f1 with
                    | none => rfl
                    | some y => rw [hq] at h; simp at h; subst h; rfl)
                  have HXS := Lib.hid (show (fi gs (.int .i64 (rd_T31 l i).f1)).getD (.int .i64 0) = .int .i64 1 by
                    have h := HX.out.2.2.2.1.sent (rd_T31 l i).f1 a s hf
                    rw [if_pos hs] at h
                    show ((gs (rd_T31 l i).f1).map (Value.int .i64)).getD (.int .i64 0) = _
                    cases hq : gs (rd_T31 l i).f1 with
                    | none => rw [hq] at h; simp at h
                    | some y => rw [hq] at h; simp at h; subst h; rfl)
                  have HINV := Lib.hid (HX.out.2.2.2.1.stop hf (by rw [hk]; decide))
                  clear hk hf hs
                  have hlge := run_look (HX.out.2.1.alloc (.cells #[.int .i64 5, .int .i64 (rd_T31 l i).f1, .int .i64 (rd_T31 l i).f2.f0, .string (rd_T31 l i).f2.f1, .string (rd_T31 l i).f2.f2, .string (rd_T31 l i).f2.f3, .string (rd_T31 l i).f2.f4, .int .i64 (rd_T31 l i).f3, .string (rd_T31 l i).f4] 31)) HWF.out HXE.out
                  have hlgs := run_look (HX.out.2.2.1.alloc (.cells #[.int .i64 5, .int .i64 (rd_T31 l i).f1, .int .i64 (rd_T31 l i).f2.f0, .string (rd_T31 l i).f2.f1, .string (rd_T31 l i).f2.f2, .string (rd_T31 l i).f2.f3, .string (rd_T31 l i).f2.f4, .int .i64 (rd_T31 l i).f3, .string (rd_T31 l i).f4] 31)) HWF.out HXS.out
                  go_wp2_with (at_mapUpdate; refine wpList_store_map rfl _ _ _ 27 rfl (Maps.int_keyed Try.underlying2) Try.underlying27 E i.toNat (fi ge) rfl (HX.out.2.1.alloc _) (by unfold maxLen; omega) _ _ rfl (key2 HWF.out) (.int .i64 1) rfl ?_; intro w1 hm1 ht1; have y0 : w1.cell? ⟨wr.heap.size, 0, none⟩ = some (.int .i64 5) := (turned_cell ht1 (show wr.heap.size ≠ E by have := HX.out.2.2.1.lt; omega)).trans (by simp); have y1 : w1.cell? ⟨wr.heap.size, 1, none⟩ = some (.int .i64 (rd_T31 l i).f1) := (turned_cell ht1 (show wr.heap.size ≠ E by have := HX.out.2.2.1.lt; omega)).trans (by simp); have HM1 := Lib.hid (And.intro hm1 ht1); clear hm1 ht1)
                  go_roundw
                  case rel =>
                    refine ⟨i + 1, opn - 1, l2, putT f (rd_T31 l i).f1 none, setI ge (rd_T31 l i).f1 (some 1), gs, rfl, rfl, by omega, by omega, Lib.hid ⟨turned_below HS2.out HM1.out.2 (by have := HEW.out; omega), ?_, ?_, ?_, HRN.out⟩⟩
                    · rw [hi1]; exact HM1.out.1.congr (fi_put ge _ _)
                    · rw [hi1]; exact (MapV.same (HX.out.2.2.1.alloc _) (turned_block HM1.out.2 (show E + 1 ≠ E by omega))).mono (by omega)
                    · rw [HD.out]; exact HINV.out
                  case measure => simp [intOf]; omega
                · have hs := HS.out
                  rw [hk] at hx0 hs
                  have HS2 := Lib.hid hs
                  clear hs
                  have HXE := Lib.hid (show (fi ge (.int .i64 (rd_T31 l i).f1)).getD (.int .i64 0) = .int .i64 0 by
                    have h := HX.out.2.2.2.1.ended (rd_T31 l i).f1
                    rw [(HX.out.2.2.2.1.open_not hf).2, if_neg Bool.false_ne_true] at h
                    show ((ge (rd_T31 l i).f1).map (Value.int .i64)).getD (.int .i64 0) = _
                    cases hq : ge (rd_T31 l i).f1 with
                    | none => rfl
                    | some y => rw [hq] at h; simp at h; subst h; rfl)
                  have HXS := Lib.hid (show (fi gs (.int .i64 (rd_T31 l i).f1)).getD (.int .i64 0) = .int .i64 1 by
                    have h := HX.out.2.2.2.1.sent (rd_T31 l i).f1 a s hf
                    rw [if_pos hs] at h
                    show ((gs (rd_T31 l i).f1).map (Value.int .i64)).getD (.int .i64 0) = _
                    cases hq : gs (rd_T31 l i).f1 with
                    | none => rw [hq] at h; simp at h
                    | some y => rw [hq] at h; simp at h; subst h; rfl)
                  have HINV := Lib.hid (HX.out.2.2.2.1.stop hf (by rw [hk]; decide))
                  clear hk hf hs
                  have hlge := run_look (HX.out.2.1.alloc (.cells #[.int .i64 7, .int .i64 (rd_T31 l i).f1, .int .i64 (rd_T31 l i).f2.f0, .string (rd_T31 l i).f2.f1, .string (rd_T31 l i).f2.f2, .string (rd_T31 l i).f2.f3, .string (rd_T31 l i).f2.f4, .int .i64 (rd_T31 l i).f3, .string (rd_T31 l i).f4] 31)) HWF.out HXE.out
                  have hlgs := run_look (HX.out.2.2.1.alloc (.cells #[.int .i64 7, .int .i64 (rd_T31 l i).f1, .int .i64 (rd_T31 l i).f2.f0, .string (rd_T31 l i).f2.f1, .string (rd_T31 l i).f2.f2, .string (rd_T31 l i).f2.f3, .string (rd_T31 l i).f2.f4, .int .i64 (rd_T31 l i).f3, .string (rd_T31 l i).f4] 31)) HWF.out HXS.out
                  go_wp2_with (at_mapUpdate; refine wpList_store_map rfl _ _ _ 27 rfl (Maps.int_keyed Try.underlying2) Try.underlying27 E i.toNat (fi ge) rfl (HX.out.2.1.alloc _) (by unfold maxLen; omega) _ _ rfl (key2 HWF.out) (.int .i64 1) rfl ?_; intro w1 hm1 ht1; have y0 : w1.cell? ⟨wr.heap.size, 0, none⟩ = some (.int .i64 7) := (turned_cell ht1 (show wr.heap.size ≠ E by have := HX.out.2.2.1.lt; omega)).trans (by simp); have y1 : w1.cell? ⟨wr.heap.size, 1, none⟩ = some (.int .i64 (rd_T31 l i).f1) := (turned_cell ht1 (show wr.heap.size ≠ E by have := HX.out.2.2.1.lt; omega)).trans (by simp); have HM1 := Lib.hid (And.intro hm1 ht1); clear hm1 ht1)
                  go_roundw
                  case rel =>
                    refine ⟨i + 1, opn - 1, l2, putT f (rd_T31 l i).f1 none, setI ge (rd_T31 l i).f1 (some 1), gs, rfl, rfl, by omega, by omega, Lib.hid ⟨turned_below HS2.out HM1.out.2 (by have := HEW.out; omega), ?_, ?_, ?_, HRN.out⟩⟩
                    · rw [hi1]; exact HM1.out.1.congr (fi_put ge _ _)
                    · rw [hi1]; exact (MapV.same (HX.out.2.2.1.alloc _) (turned_block HM1.out.2 (show E + 1 ≠ E by omega))).mono (by omega)
                    · rw [HD.out]; exact HINV.out
                  case measure => simp [intOf]; omega
                · have hs := HS.out
                  rw [hk] at hx0 hs
                  have HS2 := Lib.hid hs
                  clear hs
                  have HXE := Lib.hid (show (fi ge (.int .i64 (rd_T31 l i).f1)).getD (.int .i64 0) = .int .i64 0 by
                    have h := HX.out.2.2.2.1.ended (rd_T31 l i).f1
                    rw [(HX.out.2.2.2.1.open_not hf).2, if_neg Bool.false_ne_true] at h
                    show ((ge (rd_T31 l i).f1).map (Value.int .i64)).getD (.int .i64 0) = _
                    cases hq : ge (rd_T31 l i).f1 with
                    | none => rfl
                    | some y => rw [hq] at h; simp at h; subst h; rfl)
                  have HINV := Lib.hid (HX.out.2.2.2.1.stop hf (by rw [hk]; decide))
                  clear hk hf hs
                  have hlge := run_look (HX.out.2.1.alloc (.cells #[.int .i64 8, .int .i64 (rd_T31 l i).f1, .int .i64 (rd_T31 l i).f2.f0, .string (rd_T31 l i).f2.f1, .string (rd_T31 l i).f2.f2, .string (rd_T31 l i).f2.f3, .string (rd_T31 l i).f2.f4, .int .i64 (rd_T31 l i).f3, .string (rd_T31 l i).f4] 31)) HWF.out HXE.out
                  go_wp2_with (at_mapUpdate; refine wpList_store_map rfl _ _ _ 27 rfl (Maps.int_keyed Try.underlying2) Try.underlying27 E i.toNat (fi ge) rfl (HX.out.2.1.alloc _) (by unfold maxLen; omega) _ _ rfl (key2 HWF.out) (.int .i64 1) rfl ?_; intro w1 hm1 ht1; have y0 : w1.cell? ⟨wr.heap.size, 0, none⟩ = some (.int .i64 8) := (turned_cell ht1 (show wr.heap.size ≠ E by have := HX.out.2.2.1.lt; omega)).trans (by simp); have y1 : w1.cell? ⟨wr.heap.size, 1, none⟩ = some (.int .i64 (rd_T31 l i).f1) := (turned_cell ht1 (show wr.heap.size ≠ E by have := HX.out.2.2.1.lt; omega)).trans (by simp); have HM1 := Lib.hid (And.intro hm1 ht1); clear hm1 ht1)
                  go_roundw
                  case rel =>
                    refine ⟨i + 1, opn - 1, l2, putT f (rd_T31 l i).f1 none, setI ge (rd_T31 l i).f1 (some 1), gs, rfl, rfl, by omega, by omega, Lib.hid ⟨turned_below HS2.out HM1.out.2 (by have := HEW.out; omega), ?_, ?_, ?_, HRN.out⟩⟩
                    · rw [hi1]; exact HM1.out.1.congr (fi_put ge _ _)
                    · rw [hi1]; exact (MapV.same (HX.out.2.2.1.alloc _) (turned_block HM1.out.2 (show E + 1 ≠ E by omega))).mono (by omega)
                    · rw [HD.out]; exact HINV.out
                  case measure => simp [intOf]; omega
            · obtain rfl : i = m := by omega
              have HF := Lib.hid (show ((openP (l.take m)).length : Int) = opn from by have := HX.out.2.2.2.1.open_len; rw [Int.toNat_natCast] at this; exact this)
              have HCr := Lib.hid (Kd.C_take (Kd.C_below HC.out.1 HX.out.1) hml)
              have hkl : (l.take m).length = m := by rw [List.length_take]; omega
              have hO := audit_Open.calls A c (l.take m) _ wr HCr.out (by have := HC.out.2.1; omega) (by unfold audit_Open.f; rw [if_pos (by have := HOK.out; simp only [okN, Bool.and_eq_true, List.all_eq_true, decide_eq_true_eq] at this ⊢; exact ⟨fun x hx => this.1 x (List.mem_of_mem_take hx), by omega⟩)])
              rw [hkl] at hO
              have HO := Lib.hid hO
              clear hO hkl
              go_wp2_with fail
              refine HO.out.mono ?_
              rintro e w6 ⟨v, rfl, hR, hb⟩
              obtain ⟨A2, c2, rfl⟩ := Kd.R_slice hR
              have hlen := HF.out
              have HB6 := Lib.hid (HX.out.1.trans (hb.mono HX.out.1.size))
              clear hR hb
              go_wp2_with fail
              go_ret
              exact ⟨by simp [hlen], HB6.out⟩
end Go.Proofs.YtlmhgnkkdjpkcaaG
