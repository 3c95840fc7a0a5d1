/- The contract of audit.Open, walked. -/
import Derived.Test.YtlmhgnkkdjpkcaaDoorB4
set_option linter.unusedVariables false
set_option linter.unusedSimpArgs false
namespace Go.Proofs.YtlmhgnkkdjpkcaaDoorG
open Go.RowKit Go.Proofs.YtlmhgnkkdjpkcaaDoor.PA Go.Proofs.YtlmhgnkkdjpkcaaDoorW.PrintWords Go.Proofs.YtlmhgnkkdjpkcaaDoorW.PrintLast Go.Proofs.YtlmhgnkkdjpkcaaDoorW.PrintMore Go.Proofs.YtlmhgnkkdjpkcaaDoorM Go.Proofs.YtlmhgnkkdjpkcaaDoorV
theorem queued_snoc (l : List S30) (n : S30) (t : Int) : queuedIn (l ++ [n]) t = (queuedIn l t || (n.f0 == 3 && n.f1 == t)) := by simp [queuedIn]
theorem ended_snoc (l : List S30) (n : S30) (t : Int) : endedIn (l ++ [n]) t = (endedIn l t || (endedB n.f0 && n.f1 == t)) := by simp [endedIn]
theorem setI_some (g : Int → Option Int) (t x u : Int) : (setI g t (some x) u).isSome = ((g u).isSome || (t == u)) := by
 unfold setI
 by_cases h : u = t
 ·subst h; simp
 ·rw [if_neg h]
  have : (t == u) = false := by simpa using fun e => h e.symm
  simp [this]
theorem setI_none (g : Int → Option Int) (t u : Int) : (setI g t none u).isSome = ((g u).isSome && !(t == u)) := by
 unfold setI
 by_cases h : u = t
 ·subst h; simp
 ·rw [if_neg h]
  have : (t == u) = false := by simpa using fun e => h e.symm
  simp [this]
set_option maxHeartbeats 8000000 in
set_option maxRecDepth 100000 in
theorem open_any (A : Option Addr) (c : Nat) (l : List S30) (w : World) (hC : Kd.C k30 w A l.length l) (hw : ∀ n ∈ l, (Lit.int .i64 n.f1).wf = true) (hl : l.length ≤ 1000000000) :
  Calls Tryd.prog 25 #[.slice A l.length c] w fun e w' => ∃ v, e = .returned v ∧ w'.ownsRow w.heap.size 2 1 v (openP l).length ((openP l).map (Value.int .i64)) ∧ Below w.heap.size w w' := by
 have HC := Lib.hid (And.intro hC hw)
 have hmm := @run_makeMap Tryd.prog
 have HM0 := Lib.hid (show MapV Tryd.prog 2 (w.alloc (.map #[] 0)) w.heap.size 0 (fi fun _ => none) from (MapV.made _ _ _).congr (fun l _ => by unfold fi; split <;> rfl))
 have HB0 := Lib.hid (show Below w.heap.size w (w.alloc (.map #[] 0)) from (Below.refl _ _).alloc (Nat.le_refl _) _)
 clear hC hw
 go_enter Tryd.func25, Tryd.ntmps25
 go_wp2_with fail
 clear hmm
 go_loopw [13] (fun v wr => ∃ (i : Int) (g : Int → Option Int), v = .int .i64 i ∧ 0 ≤ i ∧ i ≤ l.length ∧ Hid (Below w.heap.size w wr ∧ MapV Tryd.prog 2 wr w.heap.size i.toNat (fi g) ∧ (∀ t, (g t).isSome = queuedIn (l.take i.toNat) t) ∧ ∀ t x, g t = some x → 0 ≤ x ∧ x ≤ i))
  (fun v _ => l.length - (intOf v).toNat)
 case atStart => exact ⟨0, _, rfl, by omega, by omega, Lib.hid ⟨HB0.out, HM0.out, fun t => rfl, fun t x h => by cases h⟩⟩
 case round =>
  obtain ⟨i, g, rfl, h0, hi, HX⟩ := hrel
  by_cases hlt : i < (l.length : Int)
  ·have HD := Lib.hid (take_snoc l i h0 hlt)
   have HCr := Lib.hid (Kd.C_below HC.out.1 HX.out.1)
   have HWF := Lib.hid (show (Lit.int .i64 (rd_T30 l i).f1).wf = true from HC.out.2 _ (List.mem_of_mem_take (i := (i + 1).toNat) (by rw [HD.out]; simp)))
   obtain ⟨ad, e184, hx0, hx1, hx2, hx3, hx4, hx5, hx6, hx7, hx8⟩ := at_T30 HCr.out i h0 hlt
   subst e184
   have HS := Lib.hid (show Below w.heap.size w (wr.alloc (.cells #[.int .i64 (rd_T30 l i).f0, .int .i64 (rd_T30 l i).f1, .int .i64 (rd_T30 l i).f2.f0, .string (rd_T30 l i).f2.f1, .string (rd_T30 l i).f2.f2, .string (rd_T30 l i).f2.f3, .string (rd_T30 l i).f2.f4, .int .i64 (rd_T30 l i).f3, .string (rd_T30 l i).f4] 30)) from HX.out.1.alloc HX.out.1.size _)
   by_cases hk : (rd_T30 l i).f0 = 3
   ·have hkb : ((rd_T30 l i).f0 == 3) = true := by simpa using hk
    obtain ⟨x, hx⟩ : ∃ x, (g (rd_T30 l i).f1).getD 0 = x := ⟨_, rfl⟩
    have hxb : 0 ≤ x ∧ x ≤ i := by
     cases hg : g (rd_T30 l i).f1 with
     | none => rw [hg] at hx; simp at hx; omega
     | some y => rw [hg] at hx; simp at hx; subst hx; exact HX.out.2.2.2 _ _ hg
    obtain ⟨hx_0, hx_1⟩ := hxb
    have HXX := Lib.hid (show (fi g (.int .i64 (rd_T30 l i).f1)).getD (.int .i64 0) = .int .i64 x by
     show ((g (rd_T30 l i).f1).map (Value.int .i64)).getD (.int .i64 0) = _
     rw [← hx]
     cases g (rd_T30 l i).f1 <;> rfl)
    clear hx hk
    go_wp2_with (first
     | (at_lookup; refine wpList_look1 rfl _ _ 71 rfl (Maps.int_keyed Tryd.underlying2) Tryd.underlying71 (z3 _) w.heap.size i.toNat (fi g) rfl (HX.out.2.1.alloc _) _ _ rfl (key2 HWF.out) (.int .i64 x) HXX.out ?_)
     | (at_mapUpdate; refine wpList_store_map rfl _ _ _ 71 rfl (Maps.int_keyed Tryd.underlying2) Tryd.underlying71 w.heap.size i.toNat (fi g) rfl (HX.out.2.1.alloc _) (by unfold maxLen; omega) _ _ rfl (key2 HWF.out) (.int .i64 (x + 1)) rfl ?_; intro w1 hm1 ht1; have HM1 := Lib.hid (And.intro hm1 ht1); clear hm1 ht1))
    go_roundw
    case rel =>
     refine ⟨i + 1, setI g (rd_T30 l i).f1 (some (x + 1)), rfl, by omega, by omega, Lib.hid ⟨turned_below HS.out HM1.out.2 (Nat.le_refl _), ?_, fun t => ?_, fun t y hy => ?_⟩⟩
     ·rw [show (i + 1).toNat = i.toNat + 1 by omega]
      exact HM1.out.1.congr (fi_put g _ _)
     ·rw [setI_some, HX.out.2.2.1, HD.out, queued_snoc, hkb, Bool.true_and]
     ·unfold setI at hy
      by_cases ht : t = (rd_T30 l i).f1
      ·rw [if_pos ht] at hy; cases hy; omega
      ·rw [if_neg ht] at hy; have := HX.out.2.2.2 t y hy; omega
    case measure => simp [intOf]; omega
   ·have hkb : ((rd_T30 l i).f0 == 3) = false := by simpa using hk
    clear hk
    go_wp2_with fail
    go_roundw
    case rel =>
     refine ⟨i + 1, g, rfl, by omega, by omega, Lib.hid ⟨HS.out, ?_, fun t => ?_, fun t y hy => by have := HX.out.2.2.2 t y hy; omega⟩⟩
     ·exact (HX.out.2.1.alloc _).mono (by omega)
     ·rw [HX.out.2.2.1, HD.out, queued_snoc, hkb, Bool.false_and, Bool.or_false]
    case measure => simp [intOf]; omega
  ·obtain rfl : i = l.length := by omega
   have HXL := Lib.hid (show Below w.heap.size w wr ∧ MapV Tryd.prog 2 wr w.heap.size l.length (fi g) ∧ ∀ t, (g t).isSome = queuedIn l t from ⟨HX.out.1, by have := HX.out.2.1; simpa using this, fun t => by have := HX.out.2.2.1 t; simpa using this⟩)
   clear HX
   go_wp2_with fail
   go_loopw [28] (fun v ws => ∃ (i : Int) (g : Int → Option Int), v = .int .i64 i ∧ 0 ≤ i ∧ i ≤ l.length ∧ Hid (Below w.heap.size w ws ∧ MapV Tryd.prog 2 ws w.heap.size l.length (fi g) ∧ ∀ t, (g t).isSome = (queuedIn l t && !endedIn (l.take i.toNat) t)))
    (fun v _ => l.length - (intOf v).toNat)
   case atStart => exact ⟨0, g, rfl, by omega, by omega, Lib.hid ⟨HXL.out.1, HXL.out.2.1, fun t => by rw [HXL.out.2.2 t]; simp [endedIn]⟩⟩
   case round =>
    clear HXL
    obtain ⟨i, g, rfl, h0, hi, HX⟩ := hrel
    by_cases hlt : i < (l.length : Int)
    ·have HD := Lib.hid (take_snoc l i h0 hlt)
     have HCr := Lib.hid (Kd.C_below HC.out.1 HX.out.1)
     have HWF := Lib.hid (show (Lit.int .i64 (rd_T30 l i).f1).wf = true from HC.out.2 _ (List.mem_of_mem_take (i := (i + 1).toNat) (by rw [HD.out]; simp)))
     obtain ⟨ad, e184, hx0, hx1, hx2, hx3, hx4, hx5, hx6, hx7, hx8⟩ := at_T30 HCr.out i h0 hlt
     subst e184
     have HS := Lib.hid (show Below w.heap.size w (wr.alloc (.cells #[.int .i64 (rd_T30 l i).f0, .int .i64 (rd_T30 l i).f1, .int .i64 (rd_T30 l i).f2.f0, .string (rd_T30 l i).f2.f1, .string (rd_T30 l i).f2.f2, .string (rd_T30 l i).f2.f3, .string (rd_T30 l i).f2.f4, .int .i64 (rd_T30 l i).f3, .string (rd_T30 l i).f4] 30)) from HX.out.1.alloc HX.out.1.size _)
     by_cases hk : endedB (rd_T30 l i).f0 = true
     ·go_wp2_with (first
       | (go_at_call 44; refine (ended_any _ _).mono ?_; rintro e w' ⟨rfl, rfl⟩; rw [hk])
       | (at_delete; refine wpList_drop_map rfl _ _ 71 2 rfl (Maps.int_keyed Tryd.underlying2) Tryd.underlying71 w.heap.size l.length (fi g) rfl (HX.out.2.1.alloc _) _ _ rfl (key2 HWF.out) ?_; intro w1 hm1 ht1; have HM1 := Lib.hid (And.intro hm1 ht1); clear hm1 ht1))
      go_roundw
      case rel =>
       refine ⟨i + 1, setI g (rd_T30 l i).f1 none, rfl, by omega, by omega, Lib.hid ⟨turned_below HS.out HM1.out.2 (Nat.le_refl _), HM1.out.1.congr (fi_del g _), fun t => ?_⟩⟩
       rw [setI_none, HX.out.2.2, HD.out, ended_snoc, hk, Bool.true_and, Bool.not_or, Bool.and_assoc]
      case measure => simp [intOf]; omega
     ·have hk2 : endedB (rd_T30 l i).f0 = false := by simpa using hk
      clear hk
      go_wp2_with (first
       | (go_at_call 44; refine (ended_any _ _).mono ?_; rintro e w' ⟨rfl, rfl⟩; rw [hk2]))
      go_roundw
      case rel =>
       refine ⟨i + 1, g, rfl, by omega, by omega, Lib.hid ⟨HS.out, HX.out.2.1.alloc _, fun t => ?_⟩⟩
       rw [HX.out.2.2, HD.out, ended_snoc, hk2, Bool.false_and, Bool.or_false]
      case measure => simp [intOf]; omega
    ·obtain rfl : i = l.length := by omega
     have HXL := Lib.hid (show Below w.heap.size w wr ∧ MapV Tryd.prog 2 wr w.heap.size l.length (fi g) ∧ ∀ t, (g t).isSome = (queuedIn l t && !endedIn l t) from ⟨HX.out.1, HX.out.2.1, fun t => by have := HX.out.2.2 t; simpa using this⟩)
     clear HX
     go_wp2_with (at_range; refine wpList_range_map rfl _ 71 rfl (Maps.int_keyed Tryd.underlying2) Tryd.underlying71 w.heap.size l.length (fi g) rfl HXL.out.2.1 ?_; intro w3 left0 cnt0 hr0 hl0 hg0 hs0 hc0; have HR0 := Lib.hid (And.intro hr0 (And.intro hl0 (And.intro hg0 (And.intro hs0 hc0)))); clear hr0 hl0 hg0 hs0 hc0)
     try go_frame
     obtain ⟨R, hR⟩ : ∃ R, R = wr.heap.size := ⟨_, rfl⟩
     have HRR := Lib.hid (show w.heap.size < R from by rw [hR]; exact HXL.out.2.1.lt)
     rw [← hR] at HR0 ⊢
     have HRW := Lib.hid hR
     clear hR
     go_loopw [8, 9] (fun v _ ws => ∃ (left : Lit → Bool) (cnt : Nat) (acc : List Int), Hid (MapR Tryd.prog 2 ws w.heap.size R l.length (fi g) left cnt ∧ ws.ownsRow w.heap.size 2 1 v acc.length (acc.map (Value.int .i64)) ∧ acc.Nodup ∧ (∀ t, t ∈ acc ↔ (g t).isSome = true ∧ left (.int .i64 t) = false) ∧ acc.length + cnt ≤ l.length ∧ Below w.heap.size w ws))
      (fun _ _ ws => ws.rangeLeft w.heap.size R)
     case atStart => exact ⟨left0, cnt0, [], Lib.hid ⟨HR0.out.1, World.ownsRow_nil _ _ _ _, List.nodup_nil, fun t => ⟨fun h => (by cases h), fun ⟨h1, h2⟩ => by have := HR0.out.2.1 (.int .i64 t) trivial; rw [h2] at this; unfold fi at this; simp at this; rw [this] at h1; cases h1⟩, by simpa using HR0.out.2.2.2.2, HXL.out.1.grown HR0.out.2.2.1 HXL.out.1.size (fun k e => by cases e)⟩⟩
     case round =>
      obtain ⟨left, cnt, acc, HX⟩ := hrel
      go_wp2_with (at_next; refine wpList_next_map rfl _ rfl Tryd.underlying2 w.heap.size R l.length (fi g) left cnt rfl HX.out.1 ?_ ?_)
      ·intro _ hl0
       have HL0 := Lib.hid hl0
       clear hl0
       have HM := Lib.hid (merge_open (l := l) HX.out.2.2.1 (fun t => by rw [HX.out.2.2.2.1 t, HXL.out.2.2 t]; simp [HL0.out]))
       rcases HX.out.2.1.2 with ⟨hnil, hk0⟩ | ⟨gb, cap, cur, hv, hbase, hb, h1, h2, h3, h4⟩
       ·subst hnil
        obtain rfl : acc = [] := List.eq_nil_of_length_eq_zero hk0
        go_wp2_with (go_at_call 45; refine (Tryd.slices_Sort_int_none none 0 _).mono ?_; rintro e w' ⟨rfl, rfl⟩)
        go_ret
        have e0 : openP l = [] := by have := HM.out; simpa using this.symm
        rw [e0]
        exact ⟨_, rfl, World.ownsRow_nil _ _ _ _, HX.out.2.2.2.2.2⟩
       ·subst hv
        have hsort := Tryd.slices_Sort_int gb 0 cap acc wr (Go.holds_of_blockI hb (by simpa using h4)) (Array.getElem?_eq_some_iff.1 hb).1 (by have := HX.out.2.2.2.2.1; omega)
        have HSB := Lib.hid (And.intro hbase (And.intro hb (And.intro h1 (And.intro h2 h3))))
        clear hbase hb h1 h2 h3 h4
        rw [HM.out] at hsort
        have HLN := Lib.hid (show (openP l).length = acc.length by rw [← HM.out]; exact List.length_mergeSort acc)
        have HSO := Lib.hid hsort
        clear hsort
        go_wp2_with (go_at_call 45; refine HSO.out.mono ?_; rintro e w' ⟨rfl, nn, os, rfl⟩)
        go_ret
        exact ⟨_, rfl, by rw [HLN.out]; exact Go.ownsRow_sortedI HLN.out HSB.out.1 HSB.out.2.1 HSB.out.2.2.1 HSB.out.2.2.2.1 HSB.out.2.2.2.2, HX.out.2.2.2.2.2.grown (Go.grownBy_sortedI _) HX.out.2.2.2.2.2.size (fun k e => by cases e; exact HSB.out.1)⟩
      ·intro x v1 w4 cnt1 hwx hlx hfx hr1 hlt hg1 hs1 hen
       obtain ⟨xc, hgx, rfl⟩ : ∃ xc, g x = some xc ∧ v1 = .int .i64 xc := by
        have hfy : (g x).map (Value.int .i64) = some v1 := hfx
        cases hq : g x with
        | none => rw [hq] at hfy; cases hfy
        | some y => rw [hq] at hfy; cases hfy; exact ⟨y, rfl, rfl⟩
       have hob := HX.out.1.ne_row HX.out.2.1
       have HO4 := Lib.hid (HX.out.2.1.kept hg1 (.inr hob.1))
       have HY := Lib.hid (And.intro hlx (And.intro hgx (And.intro hr1 hlt)))
       have HB4 := Lib.hid (HX.out.2.2.2.2.2.grown hg1 HX.out.2.2.2.2.2.size (fun k e => by cases e; exact Nat.le_of_lt HRR.out))
       have hN : acc.length + 1 ≤ 1000000000 := by have := HX.out.2.2.2.2.1; omega
       clear hfx hlx hgx hr1 hlt hg1 hs1 hob hwx
       obtain ⟨i2, hi2, hz2, hsz2, hbz2⟩ := info_parts info2
       have HI := Lib.hid (And.intro hi2 (And.intro hz2 (And.intro hsz2 hbz2)))
       clear hi2 hz2 hsz2 hbz2
       go_wp2_with (at_builtin; refine wpList_append_own _ rfl _ _ 41 rfl w.heap.size 2 i2 (.int .i64 0) 1 8 Tryd.underlying41 HI.out.1 HI.out.2.1 HI.out.2.2.1 HI.out.2.2.2 rfl (by decide) u8 acc.length (acc.map (Value.int .i64)) rfl (HO4.out.alloc _) ⟨w4.heap.size, 0, none⟩ 1 1 [.int .i64 x] rfl rfl (cell_one_new _ _ _) (by intro u hu; rw [List.mem_singleton] at hu; subst hu; rfl) (by unfold maxLen; omega) (by omega) (by have := HB4.out.size; simp; omega) ?_; intro v' w5 hown' hgrow _; have HA := Lib.hid (And.intro hown' hgrow); clear hown' hgrow)
       go_roundw
       case rel =>
        have hR4 := HY.out.2.2.1.alloc (.cells #[.int .i64 x] 2)
        have hne := hR4.ne_row (HO4.out.alloc _)
        refine ⟨fun z => left z && !z.sameKey (.int .i64 x), cnt1, acc ++ [x], Lib.hid ⟨hR4.kept HA.out.2 (fun e => hne.2 e.symm) (fun e => hne.1 e.symm), ?_, ?_, fun t => ?_, ?_, ?_⟩⟩
        ·have := HA.out.1
         rw [List.length_append, List.map_append]
         exact this
        ·refine List.nodup_append.2 ⟨HX.out.2.2.1, by simp, ?_⟩
         intro a ha b hb e
         rw [List.mem_singleton] at hb
         subst hb e
         have := ((HX.out.2.2.2.1 a).1 ha).2
         rw [HY.out.1] at this
         cases this
        ·rw [List.mem_append, HX.out.2.2.2.1 t, List.mem_singleton]
         by_cases e : t = x
         ·subst e
          have hs : (Lit.int .i64 t).sameKey (.int .i64 t) = true := by simp [Lit.sameKey]
          simp [HY.out.2.1, hs]
         ·have hs : (Lit.int .i64 t).sameKey (.int .i64 x) = false := Maps.sameKey_ne (by intro h; cases h; exact e rfl)
          simp [e, hs]
        ·have := HX.out.2.2.2.2.1
         have := HY.out.2.2.2
         rw [List.length_append]
         simp
         omega
        ·exact (HB4.out.alloc HB4.out.size _).grown HA.out.2 (by have := HB4.out.size; simp; omega) (fun k e => HO4.out.lt k (by rw [← e]) |>.1)
       case measure =>
        have hR4 := HY.out.2.2.1.alloc (.cells #[.int .i64 x] 2)
        have hne := hR4.ne_row (HO4.out.alloc _)
        rw [(hR4.kept HA.out.2 (fun e => hne.2 e.symm) (fun e => hne.1 e.symm)).left_eq, HX.out.1.left_eq]
        exact HY.out.2.2.2
def audit_Open.f (l : List S30) : Option (List Int) := if okN l = true then some (openP l) else none
theorem audit_Open.calls (A0 : Option Addr) (c0 : Nat) (l0 : List S30) (r : List Int) (w : World) (hr0 : Kd.C k30 w A0 l0.length l0) (hc0 : l0.length ≤ c0) (h : audit_Open.f l0 = some r) :
  Calls Tryd.prog 25 #[.slice A0 l0.length c0] w fun e w' => ∃ v0_ : Value, e = .returned (v0_) ∧ Kd.R (Kd.int .i64) 2 w' w.heap.size (fun _ => True) v0_ r ∧ Below w.heap.size w w' := by
 unfold audit_Open.f at h
 by_cases hk : okN l0 = true
 ·rw [if_pos hk] at h
  obtain rfl := Option.some.inj h
  simp only [okN, Bool.and_eq_true, List.all_eq_true, decide_eq_true_eq] at hk
  refine (open_any A0 c0 l0 w hr0 hk.1 hk.2).mono ?_
  rintro e w' ⟨v, rfl, ho, hb⟩
  exact ⟨v, rfl, Kd.R_of_own ho (fun _ _ => trivial), hb⟩
 ·rw [if_neg hk] at h
  cases h
end Go.Proofs.YtlmhgnkkdjpkcaaDoorG
