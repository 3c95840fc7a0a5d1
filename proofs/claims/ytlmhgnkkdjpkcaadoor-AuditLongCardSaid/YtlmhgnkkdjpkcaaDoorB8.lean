/- The contract of audit's own. -/
import Derived.Test.YtlmhgnkkdjpkcaaDoorB5
import Derived.Test.YtlmhgnkkdjpkcaaDoorB7
set_option linter.unusedVariables false
set_option linter.unusedSimpArgs false
namespace Go.Proofs.YtlmhgnkkdjpkcaaDoorG
open Go.RowKit Go.Proofs.YtlmhgnkkdjpkcaaDoor.PA Go.Proofs.YtlmhgnkkdjpkcaaDoorW.PrintWords Go.Proofs.YtlmhgnkkdjpkcaaDoorW.PrintLast Go.Proofs.YtlmhgnkkdjpkcaaDoorW.PrintMore Go.Proofs.YtlmhgnkkdjpkcaaDoorM Go.Proofs.YtlmhgnkkdjpkcaaDoorV
def insAt (u : ByteArray) (out : List ByteArray) : List ByteArray := out.take (posS u out) ++ u :: out.drop (posS u out)
def delAt (u : ByteArray) (out : List ByteArray) : List ByteArray := out.take (posS u out) ++ out.drop (posS u out + 1)
def ownStep (room : ByteArray) (out : List ByteArray) (n : S30) : List ByteArray :=
  if n.f0 = 5 then (if n.f2.f1 = room then
    (if n.f2.f0 = 1 then (if hasS n.f2.f2 out = true then out else insAt n.f2.f2 out)
     else if n.f2.f0 = 2 then (if hasS n.f2.f2 out = true then delAt n.f2.f2 out else out) else out) else out) else out
def ownP (l : List S30) (room : ByteArray) : List ByteArray := l.foldl (ownStep room) []
theorem has_lt {u : ByteArray} {l : List ByteArray} (h : hasS u l = true) : posS u l < l.length := by
  unfold hasS at h
  have := of_decide_eq_true h
  exact (List.getElem?_eq_some_iff.1 this).1
theorem has_at {u : ByteArray} {l : List ByteArray} (h : hasS u l = true) : l[posS u l]? = some u := by
  unfold hasS at h
  exact of_decide_eq_true h
theorem rising_sub {l m : List ByteArray} (h : m.Sublist l) (hr : Rising l) : Rising m := List.Pairwise.sublist h hr
theorem insAt_length (u : ByteArray) (l : List ByteArray) : (insAt u l).length = l.length + 1 := by
  have := posS_le u l
  unfold insAt
  simp
  omega
theorem delAt_length {u : ByteArray} {l : List ByteArray} (h : hasS u l = true) : (delAt u l).length + 1 = l.length := by
  have := has_lt h
  unfold delAt
  simp
  omega
theorem rising_ins {u : ByteArray} {l : List ByteArray} (hr : Rising l) (hn : hasS u l = false) : Rising (insAt u l) := by
  unfold insAt Rising
  have hlow : ∀ a ∈ l.take (posS u l), lessS a u = true := by
    intro a ha
    obtain ⟨i, hi, rfl⟩ := List.mem_iff_getElem.1 ha
    rw [List.length_take] at hi
    rw [List.getElem_take]
    exact posS_low (by omega) (by omega)
  have hhigh : ∀ a ∈ l.drop (posS u l), lessS u a = true := by
    intro a ha
    obtain ⟨i, hi, rfl⟩ := List.mem_iff_getElem.1 ha
    rw [List.length_drop] at hi
    rw [List.getElem_drop]
    have h1 := posS_high (x := u) hr (t := posS u l + i) (by omega) (by omega)
    refine lessS_total (fun e => ?_) h1
    cases i with
    | zero =>
      unfold hasS at hn
      have := of_decide_eq_false hn
      exact this (by rw [List.getElem?_eq_getElem (by omega)]; exact congrArg some e)
    | succ i =>
      have h2 := List.pairwise_iff_getElem.1 hr (posS u l) (posS u l + (i + 1)) (by omega) (by omega) (by omega)
      rw [e] at h2
      rw [posS_at] at h2
      cases h2
  refine List.pairwise_append.2 ⟨rising_sub (List.take_sublist _ _) hr, List.pairwise_cons.2 ⟨hhigh, rising_sub (List.drop_sublist _ _) hr⟩, ?_⟩
  intro a ha b hb
  rcases List.mem_cons.1 hb with rfl | hb
  · exact hlow a ha
  · exact lessS_trans (hlow a ha) (hhigh b hb)
theorem rising_del {u : ByteArray} {l : List ByteArray} (hr : Rising l) : Rising (delAt u l) := by
  unfold delAt
  refine rising_sub ?_ hr
  have h1 : (l.take (posS u l) ++ l.drop (posS u l + 1)).Sublist (l.take (posS u l) ++ l.drop (posS u l)) := List.Sublist.append_left (List.drop_sublist_drop_left _ (Nat.le_succ _)) _
  rwa [List.take_append_drop] at h1
theorem ownStep_rising {room : ByteArray} {out : List ByteArray} {n : S30} (h : Rising out) : Rising (ownStep room out n) := by
  unfold ownStep
  split
  · split
    · split
      · split
        · exact h
        · exact rising_ins h (by simpa using (by assumption : ¬ hasS n.f2.f2 out = true))
      · split
        · split
          · exact rising_del h
          · exact h
        · exact h
    · exact h
  · exact h
theorem ownP_snoc (l : List S30) (n : S30) (room : ByteArray) : ownP (l ++ [n]) room = ownStep room (ownP l room) n := by unfold ownP; rw [List.foldl_append]; rfl
theorem ownStep_length {room : ByteArray} {out : List ByteArray} {n : S30} : (ownStep room out n).length ≤ out.length + 1 := by
  unfold ownStep
  split
  · split
    · split
      · split
        · omega
        · rw [insAt_length]; omega
      · split
        · split
          · have := delAt_length (by assumption : hasS n.f2.f2 out = true); omega
          · omega
        · omega
    · omega
  · omega
theorem own_drewN {w : World} {B : Nat} {v : Value} {l : List ByteArray} (h : OwnS w B v l) (q : Nat) : OwnS (w.drewN q) B v l := h
theorem own_alloc {w : World} {B : Nat} {v : Value} {l : List ByteArray} (h : OwnS w B v l) (o : Obj) : OwnS (w.alloc o) B v l := World.ownsRow.alloc h o
theorem below_ins {B q : Nat} {w0 w w3 : World} {o : Obj} (h : Below B w0 w) (hB : B ≤ w.heap.size) (h3 : Below B ((w.drewN q).alloc o) w3) : Below B w0 w3 := ((pw_below_drewN h q).alloc hB _).trans h3
theorem below_del {B q : Nat} {w0 w w3 : World} (h : Below B w0 w) (h3 : Below B (w.drewN q) w3) : Below B w0 w3 := (pw_below_drewN h q).trans h3
theorem blk_new1 {w : World} {I : Nat} {x : Value} {t : TypeId} (h : I = w.heap.size) : Blk (w.alloc (.cells #[x] t)) I [x] t := by
  subst h
  exact Blk.new w [x] t
set_option maxHeartbeats 8000000 in
set_option maxRecDepth 100000 in
theorem own_any (A : Option Addr) (c : Nat) (l : List S30) (room : ByteArray) (w : World) (hC : Kd.C k30 w A l.length l) (hl : l.length ≤ 1000000000) :
    Calls Tryd.prog 36 #[.slice A l.length c, .string room] w fun e w' => ∃ v, e = .returned v ∧ OwnS w' w.heap.size v (ownP l room) ∧ Below w.heap.size w w' := by
  have HC := Lib.hid hC
  clear hC
  go_enter Tryd.func36, Tryd.ntmps36
  go_wp2_with fail
  go_loopw [5, 13] (fun v v13 wr => ∃ (i : Int) (out : List ByteArray), v13 = .int .i64 i ∧ 0 ≤ i ∧ i ≤ l.length ∧ Hid (OwnS wr w.heap.size v out ∧ Below w.heap.size w wr ∧ out = ownP (l.take i.toNat) room ∧ Rising out ∧ out.length ≤ i.toNat))
    (fun _ v _ => l.length - (intOf v).toNat)
  case atStart => exact ⟨0, [], rfl, by omega, by omega, Lib.hid ⟨World.ownsRow_nil _ _ _ _, Below.refl _ _, rfl, List.Pairwise.nil, by simp⟩⟩
  case round =>
    obtain ⟨i, out, rfl, h0, hi, HX⟩ := hrel
    by_cases hlt : i < (l.length : Int)
    · have HD := Lib.hid (take_snoc l i h0 hlt)
      have HCr := Lib.hid (Kd.C_below HC.out HX.out.2.1)
      have HN := Lib.hid (show ownP (l.take (i + 1).toNat) room = ownStep room out (rd_T30 l i) by rw [HD.out, ownP_snoc, ← HX.out.2.2.1])
      have HRS := Lib.hid (show Rising (ownStep room out (rd_T30 l i)) from ownStep_rising HX.out.2.2.2.1)
      have HLN := Lib.hid (show (ownStep room out (rd_T30 l i)).length ≤ (i + 1).toNat from by have := ownStep_length (room := room) (out := out) (n := rd_T30 l i); have := HX.out.2.2.2.2; omega)
      obtain ⟨ad, e184, hx0, hx1, hx2, hx3, hx4, hx5, hx6, hx7, hx8⟩ := at_T30 HCr.out i h0 hlt
      subst e184
      have HS := Lib.hid (show Below w.heap.size w (wr.alloc (.cells #[.int .i64 (rd_T30 l i).f0, .int .i64 (rd_T30 l i).f1, .int .i64 (rd_T30 l i).f2.f0, .string (rd_T30 l i).f2.f1, .string (rd_T30 l i).f2.f2, .string (rd_T30 l i).f2.f3, .string (rd_T30 l i).f2.f4, .int .i64 (rd_T30 l i).f3, .string (rd_T30 l i).f4] 30)) from HX.out.2.1.alloc HX.out.2.1.size _)
      by_cases hk : (rd_T30 l i).f0 = 5
      · have hkb : ((rd_T30 l i).f0 != 5) = false := by simpa using hk
        by_cases hr : (rd_T30 l i).f2.f1 = room
        · have HST : Hid (ownStep room out (rd_T30 l i) = if (rd_T30 l i).f2.f0 = 1 then (if hasS (rd_T30 l i).f2.f2 out = true then out else insAt (rd_T30 l i).f2.f2 out) else if (rd_T30 l i).f2.f0 = 2 then (if hasS (rd_T30 l i).f2.f2 out = true then delAt (rd_T30 l i).f2.f2 out else out) else out) := Lib.hid (by unfold ownStep; rw [if_pos hk, if_pos hr])
          have hrb : ((rd_T30 l i).f2.f1.toList != room.toList) = false := by rw [hr]; simp
          have hrb2 : ((rd_T30 l i).f2.f1.toList == room.toList) = true := by rw [hr]; simp
          clear hr hk
          have HSE := Lib.hid (search_own (wr.alloc (.cells #[.int .i64 (rd_T30 l i).f0, .int .i64 (rd_T30 l i).f1, .int .i64 (rd_T30 l i).f2.f0, .string (rd_T30 l i).f2.f1, .string (rd_T30 l i).f2.f2, .string (rd_T30 l i).f2.f3, .string (rd_T30 l i).f2.f4, .int .i64 (rd_T30 l i).f3, .string (rd_T30 l i).f4] 30)) w.heap.size u5 out (rd_T30 l i).f2.f2 (HX.out.1.alloc _) HX.out.2.2.2.1 (by have := HX.out.2.2.2.2; omega))
          have HPL := Lib.hid (posS_le (rd_T30 l i).f2.f2 out)
          have hpl2 : posS (rd_T30 l i).f2.f2 out ≤ 1000000000 := by have := HPL.out; have := HX.out.2.2.2.2; omega
          by_cases hq1 : (rd_T30 l i).f2.f0 = 1
          · have hb1 : ((rd_T30 l i).f2.f0 == 1) = true := by simpa using hq1
            have hb2 : ((rd_T30 l i).f2.f0 == 2) = false := by rw [hq1]; rfl
            have HQ1 := Lib.hid hq1
            clear hq1
            cases hh : hasS (rd_T30 l i).f2.f2 out with
            | true =>
              have HSE2 := HSE.out
              rw [hh] at HSE2
              go_wp2_with fail
              refine HSE2.mono ?_
              rintro e w2 ⟨rfl, q, rfl⟩
              clear HSE2
              go_wp2_with fail
              go_roundw
              case rel => exact ⟨i + 1, ownStep room out (rd_T30 l i), rfl, by omega, by omega, Lib.hid ⟨by rw [HST.out, if_pos HQ1.out, if_pos hh]; exact (own_drewN (own_alloc HX.out.1 _) q), pw_below_drewN HS.out q, HN.out.symm, HRS.out, HLN.out⟩⟩
              case measure => simp [intOf]; omega
            | false =>
              have HSE2 := HSE.out
              rw [hh] at HSE2
              go_wp2_with fail
              refine HSE2.mono ?_
              rintro e w2 ⟨rfl, q, rfl⟩
              clear HSE2
              go_wp2_with fail
              refine (insert_own _ w.heap.size _ (posS (rd_T30 l i).f2.f2 out) u5 out (rd_T30 l i).f2.f2 ?_ ?_ HPL.out ?_ ?_ ?_).mono ?_
              · exact own_alloc (own_drewN (own_alloc HX.out.1 _) q) _
              · exact blk_new1 (by simp)
              · intro e
                have := (HX.out.1.lt _ e).2
                omega
              · have := HX.out.2.2.2.2
                omega
              · have := HS.out.size
                simp at this ⊢
                omega
              rintro e w3 ⟨v3, rfl, ho3, hb3⟩
              have HO3 := Lib.hid (And.intro ho3 (below_ins HS.out HS.out.size hb3))
              clear ho3 hb3
              go_wp2_with fail
              go_roundw
              case rel => exact ⟨i + 1, ownStep room out (rd_T30 l i), rfl, by omega, by omega, Lib.hid ⟨by rw [HST.out, if_pos HQ1.out, if_neg (by rw [hh]; decide)]; exact HO3.out.1, HO3.out.2, HN.out.symm, HRS.out, HLN.out⟩⟩
              case measure => simp [intOf]; omega
          · have hb1 : ((rd_T30 l i).f2.f0 == 1) = false := by simpa using hq1
            have HQ1 := Lib.hid hq1
            clear hq1
            by_cases hq2 : (rd_T30 l i).f2.f0 = 2
            · have hb2 : ((rd_T30 l i).f2.f0 == 2) = true := by simpa using hq2
              have HQ2 := Lib.hid hq2
              clear hq2
              cases hh : hasS (rd_T30 l i).f2.f2 out with
              | true =>
                have HSE2 := HSE.out
                rw [hh] at HSE2
                go_wp2_with fail
                refine HSE2.mono ?_
                rintro e w2 ⟨rfl, q, rfl⟩
                clear HSE2
                go_wp2_with fail
                refine (delete_own _ w.heap.size (posS (rd_T30 l i).f2.f2 out) u5 out ?_ (has_lt hh) ?_).mono ?_
                · exact (own_drewN (own_alloc HX.out.1 _) q)
                · have := HX.out.2.2.2.2
                  omega
                rintro e w3 ⟨v3, rfl, ho3, hb3⟩
                have HO3 := Lib.hid (And.intro ho3 (below_del HS.out hb3))
                clear ho3 hb3
                go_wp2_with fail
                go_roundw
                case rel => exact ⟨i + 1, ownStep room out (rd_T30 l i), rfl, by omega, by omega, Lib.hid ⟨by rw [HST.out, if_neg HQ1.out, if_pos HQ2.out, if_pos hh]; exact HO3.out.1, HO3.out.2, HN.out.symm, HRS.out, HLN.out⟩⟩
                case measure => simp [intOf]; omega
              | false =>
                have HSE2 := HSE.out
                rw [hh] at HSE2
                go_wp2_with fail
                refine HSE2.mono ?_
                rintro e w2 ⟨rfl, q, rfl⟩
                clear HSE2
                go_wp2_with fail
                go_roundw
                case rel => exact ⟨i + 1, ownStep room out (rd_T30 l i), rfl, by omega, by omega, Lib.hid ⟨by rw [HST.out, if_neg HQ1.out, if_pos HQ2.out, if_neg (by rw [hh]; decide)]; exact (own_drewN (own_alloc HX.out.1 _) q), pw_below_drewN HS.out q, HN.out.symm, HRS.out, HLN.out⟩⟩
                case measure => simp [intOf]; omega
            · have hb2 : ((rd_T30 l i).f2.f0 == 2) = false := by simpa using hq2
              have HQ2 := Lib.hid hq2
              clear hq2
              cases hh : hasS (rd_T30 l i).f2.f2 out with
              | true =>
                have HSE2 := HSE.out
                rw [hh] at HSE2
                go_wp2_with fail
                refine HSE2.mono ?_
                rintro e w2 ⟨rfl, q, rfl⟩
                clear HSE2
                go_wp2_with fail
                go_roundw
                case rel => exact ⟨i + 1, ownStep room out (rd_T30 l i), rfl, by omega, by omega, Lib.hid ⟨by rw [HST.out, if_neg HQ1.out, if_neg HQ2.out]; exact (own_drewN (own_alloc HX.out.1 _) q), pw_below_drewN HS.out q, HN.out.symm, HRS.out, HLN.out⟩⟩
                case measure => simp [intOf]; omega
              | false =>
                have HSE2 := HSE.out
                rw [hh] at HSE2
                go_wp2_with fail
                refine HSE2.mono ?_
                rintro e w2 ⟨rfl, q, rfl⟩
                clear HSE2
                go_wp2_with fail
                go_roundw
                case rel => exact ⟨i + 1, ownStep room out (rd_T30 l i), rfl, by omega, by omega, Lib.hid ⟨by rw [HST.out, if_neg HQ1.out, if_neg HQ2.out]; exact (own_drewN (own_alloc HX.out.1 _) q), pw_below_drewN HS.out q, HN.out.symm, HRS.out, HLN.out⟩⟩
                case measure => simp [intOf]; omega
        · have HST : Hid (ownStep room out (rd_T30 l i) = out) := Lib.hid (by unfold ownStep; rw [if_pos hk, if_neg hr])
          have hrb2 : ((rd_T30 l i).f2.f1.toList == room.toList) = false := by simpa using fun e => hr (toList_inj e)
          have hrb : ((rd_T30 l i).f2.f1.toList != room.toList) = true := by rw [bne, hrb2]; rfl
          clear hr hk
          go_wp2_with fail
          go_roundw
          case rel => exact ⟨i + 1, ownStep room out (rd_T30 l i), rfl, by omega, by omega, Lib.hid ⟨by rw [HST.out]; exact HX.out.1.alloc _, HS.out, HN.out.symm, HRS.out, HLN.out⟩⟩
          case measure => simp [intOf]; omega
      · have HST : Hid (ownStep room out (rd_T30 l i) = out) := Lib.hid (by unfold ownStep; rw [if_neg hk])
        have hkb : ((rd_T30 l i).f0 != 5) = true := by simpa using hk
        clear hk
        go_wp2_with fail
        go_roundw
        case rel => exact ⟨i + 1, ownStep room out (rd_T30 l i), rfl, by omega, by omega, Lib.hid ⟨by rw [HST.out]; exact HX.out.1.alloc _, HS.out, HN.out.symm, HRS.out, HLN.out⟩⟩
        case measure => simp [intOf]; omega
    · obtain rfl : i = l.length := by omega
      have HF := Lib.hid (show OwnS wr w.heap.size u5 (ownP l room) from by have := HX.out.2.2.1; rw [Int.toNat_natCast, List.take_length] at this; rw [← this]; exact HX.out.1)
      go_wp2_with fail
      go_ret
      exact ⟨_, rfl, HF.out, HX.out.2.1⟩
def audit_own.f (l : List S30) (room : ByteArray) : Option (List ByteArray) := if l.length ≤ 1000000000 then some (ownP l room) else none
theorem audit_own.calls (A0 : Option Addr) (c0 : Nat) (l0 : List S30) (a1 : ByteArray) (r : List ByteArray) (w : World) (hr0 : Kd.C k30 w A0 l0.length l0) (hc0 : l0.length ≤ c0) (h : audit_own.f l0 a1 = some r) :
    Calls Tryd.prog 36 #[.slice A0 l0.length c0, .string a1] w fun e w' => ∃ v0_ : Value, e = .returned (v0_) ∧ Kd.R Kd.string 9 w' w.heap.size (fun _ => True) v0_ r ∧ Below w.heap.size w w' := by
  unfold audit_own.f at h
  by_cases hk : l0.length ≤ 1000000000
  · rw [if_pos hk] at h
    obtain rfl := Option.some.inj h
    refine (own_any A0 c0 l0 a1 w hr0 hk).mono ?_
    rintro e w' ⟨v, rfl, ho, hb⟩
    exact ⟨v, rfl, Kd.R_of_own ho (fun _ _ => trivial), hb⟩
  · rw [if_neg hk] at h
    cases h
end Go.Proofs.YtlmhgnkkdjpkcaaDoorG
