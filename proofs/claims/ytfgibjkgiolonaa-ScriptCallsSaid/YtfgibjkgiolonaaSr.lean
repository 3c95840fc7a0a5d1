/- outlawref25.Read: the script that bytes are, or what is wrong: what script.Read answers. -/
import Derived.Test.YtfgibjkgiolonaaWm
import Derived.Test.YtfgibjkgiolonaaSp
import Derived.Test.YtfgibjkgiolonaaSc
set_option linter.unusedVariables false
set_option linter.unusedSimpArgs false
namespace Go.Proofs.YtfgibjkgiolonaaS
open Go.RowKit Go.Proofs.YtfgibjkgiolonaaW.PrintWords Go.Proofs.YtfgibjkgiolonaaW.PrintLast Go.Proofs.YtfgibjkgiolonaaW.PrintMore Go.Proofs.YtfgibjkgiolonaaX Go.Proofs.Ytfgibjkgiolonaa.PA Go.Proofs.YtfgibjkgiolonaaG
def contP (bot : ByteArray) (sec : Int) : Res (List S45) → Res Scr
 | .bad x => .bad x
 | .ok l r => if r.size = 0 then .ok ⟨bot, sec, l⟩ r else .bad 5
def Inv (s0 bot : ByteArray) (sec : Int) (n : Nat) (acc : List S45) (st : ByteArray) (er : Int) : Prop :=
 (er = 0 ∧ scriptP s0 = contP bot sec (stepsA acc n st)) ∨ (er ≠ 0 ∧ scriptP s0 = .bad er)
theorem kept_err {α : Type} {z n : α} {s r : ByteArray} {e x : Int} {R : Res α} (h : kept z s e R = (n, r, x)) (he : e ≠ 0) : n = z ∧ r = s ∧ x = e := by
 rw [kept_off he] at h; cases h; exact ⟨rfl, rfl, rfl⟩
theorem head_inv {s s1 s2 s3 s4 bot : ByteArray} {v1 e1 e2 e3 e4 sec n : Int} (h1 : kept 0 s 0 (smallP s) = (v1, s1, e1)) (h2 : kept ⟨#[]⟩ s1 e1 (takeP s1 v1) = (bot, s2, e2)) (h3 : kept 0 s2 e2 (greatP s2) = (sec, s3, e3)) (h4 : kept 0 s3 e3 (greatP s3) = (n, s4, e4)) :
  Inv s bot sec n.toNat [] s4 e4 ∧ 0 ≤ n ∧ n ≤ 65535 ∧ 0 ≤ v1 := by
 cases k1 : smallP s with
 | bad x =>
  have hx := small_bad k1
  subst hx
  rw [kept_bad k1] at h1
  cases h1
  obtain ⟨-, rfl, rfl⟩ := kept_err h2 (by decide)
  obtain ⟨-, rfl, rfl⟩ := kept_err h3 (by decide)
  obtain ⟨rfl, rfl, rfl⟩ := kept_err h4 (by decide)
  exact ⟨.inr ⟨by decide, scriptP_1 (by unfold textP; rw [k1])⟩, by decide, by decide, by decide⟩
 | ok v r =>
  have hv := smallP_range k1
  rw [kept_on k1] at h1
  cases h1
  cases k2 : takeP s1 v1 with
  | bad x =>
   have hx := takeP_bad k2
   subst hx
   rw [kept_bad k2] at h2
   cases h2
   obtain ⟨-, rfl, rfl⟩ := kept_err h3 (by decide)
   obtain ⟨rfl, rfl, rfl⟩ := kept_err h4 (by decide)
   exact ⟨.inr ⟨by decide, scriptP_1 (by unfold textP; rw [k1]; exact k2)⟩, by decide, by decide, hv.1⟩
  | ok t r2 =>
   have ht : textP smallP s = .ok t r2 := by unfold textP; rw [k1]; exact k2
   rw [kept_on k2] at h2
   cases h2
   cases k3 : greatP s2 with
   | bad x =>
    have hx := great_bad k3
    subst hx
    rw [kept_bad k3] at h3
    cases h3
    obtain ⟨rfl, rfl, rfl⟩ := kept_err h4 (by decide)
    exact ⟨.inr ⟨by decide, scriptP_2 ht k3⟩, by decide, by decide, hv.1⟩
   | ok q r3 =>
    rw [kept_on k3] at h3
    cases h3
    cases k4 : greatP s3 with
    | bad x =>
     have hx := great_bad k4
     subst hx
     rw [kept_bad k4] at h4
     cases h4
     exact ⟨.inr ⟨by decide, scriptP_3 ht k3 k4⟩, by decide, by decide, hv.1⟩
    | ok m r4 =>
     have hm := greatP_range k4
     rw [kept_on k4] at h4
     cases h4
     refine ⟨.inl ⟨rfl, ?_⟩, hm.1, hm.2.1, hv.1⟩
     cases k5 : stepsA [] n.toNat s4 with
     | bad x => exact scriptP_4 ht k3 k4 k5
     | ok l r5 =>
      show scriptP s = (if r5.size = 0 then _ else _)
      by_cases hz : r5.size = 0
      ·rw [if_pos hz]; exact scriptP_6 ht k3 k4 k5 hz
      ·rw [if_neg hz]; exact scriptP_5 ht k3 k4 k5 hz
theorem inv_ok {s0 bot : ByteArray} {sec : Int} {n : Nat} {acc : List S45} {st r : ByteArray} {y : S45} (h : Inv s0 bot sec (n + 1) acc st 0) (hs : stepP st = .ok y r) : Inv s0 bot sec n (acc ++ [y]) r 0 := by
 rcases h with ⟨-, h⟩ | ⟨h, -⟩
 ·rw [stepsA_ok hs] at h; exact .inl ⟨rfl, h⟩
 ·exact absurd rfl h
theorem inv_no {s0 bot : ByteArray} {sec : Int} {n m : Nat} {acc l : List S45} {st r : ByteArray} {x : Int} (h : Inv s0 bot sec (n + 1) acc st 0) (hs : stepP st = .bad x) (hx : x ≠ 0) : Inv s0 bot sec m l r x := by
 rcases h with ⟨-, h⟩ | ⟨h, -⟩
 ·rw [stepsA_bad hs] at h; exact .inr ⟨hx, h⟩
 ·exact absurd rfl h
theorem inv_end {s0 bot : ByteArray} {sec : Int} {acc : List S45} {st : ByteArray} (h : Inv s0 bot sec 0 acc st 0) : scriptP s0 = if st.size = 0 then .ok ⟨bot, sec, acc⟩ st else .bad 5 := by
 rcases h with ⟨-, h⟩ | ⟨h, -⟩
 ·exact h
 ·exact absurd rfl h
theorem inv_err {s0 bot : ByteArray} {sec : Int} {n : Nat} {acc : List S45} {st : ByteArray} {e : Int} (h : Inv s0 bot sec n acc st e) (he : e ≠ 0) : readS s0 = (⟨#[]⟩, 0, [], e) := by
 rcases h with ⟨h, -⟩ | ⟨-, h⟩
 ·exact absurd h he
 ·unfold readS; rw [h]
theorem res20 {w : World} {I : Nat} {a b c x : Value} {tmps : Array Value} (h : Blk w I #[a, b, c] 24) (ht : tmps.getD 2 undef = .pointer (some ⟨I, 0, none⟩)) (hx : tmps.getD 3 undef = x) :
  (results Try.f20 tmps).run Try.prog w = .ok (.tuple #[.agg #[a, b, c], x]) w := by
 obtain ⟨c0, c1, c2, z0, z1, z2⟩ := three h
 simp at ht hx c0 c1 c2
 simp [results, Try.results20, go_sem, ht, hx, c0, c1, c2, Result.andThen]
theorem blk_keep {w w1 : World} {g I : Nat} {c : Array Value} {t : TypeId} (h : Blk w I c t) (hk : KeepBut w w1 g none) (hI : I ≠ g) : Blk w1 I c t := by
 have hl := h.lt
 unfold Blk at h ⊢
 rw [hk.2 I hl hI (by simp)]
 exact h
set_option maxHeartbeats 8000000 in
set_option maxRecDepth 100000 in
theorem refread_any (s : ByteArray) (w : World) (r : ByteArray × Int × List S45 × Int) (hr : readS s = r) :
  Calls Try.prog 20 #[.string s] w fun e w' => ∃ v : Value, e = .returned (.tuple #[.agg #[.string r.1, .int .i64 r.2.1, v], .int .i64 r.2.2.2]) ∧ Kd.S k45 45 w' w.heap.size (fun _ => True) v r.2.2.1 ∧ Below w.heap.size w w' := by
 have HR := Lib.hid hr
 clear hr
 obtain ⟨⟨v1, s1, e1⟩, h1⟩ : ∃ z, kept 0 s 0 (smallP s) = z := ⟨_, rfl⟩
 obtain ⟨⟨bot, s2, e2⟩, h2⟩ : ∃ z, kept ⟨#[]⟩ s1 e1 (takeP s1 v1) = z := ⟨_, rfl⟩
 obtain ⟨⟨sec, s3, e3⟩, h3⟩ : ∃ z, kept 0 s2 e2 (greatP s2) = z := ⟨_, rfl⟩
 obtain ⟨⟨n, s4, e4⟩, h4⟩ : ∃ z, kept 0 s3 e3 (greatP s3) = z := ⟨_, rfl⟩
 have HV := Lib.hid (head_inv h1 h2 h3 h4)
 have HN := Lib.hid (And.intro ((number_1 0 s 0).trans (congrArg some h1)) (And.intro ((take_val 0 s1 e1 v1 HV.out.2.2.2).trans (congrArg some h2)) (And.intro ((number_2 0 s2 e2).trans (congrArg some h3)) ((number_2 0 s3 e3).trans (congrArg some h4)))))
 clear h1 h2 h3 h4
 go_enter Try.func20, Try.ntmps20
 go_wp2_with fail
 have HZ := Lib.hid (show Blk ((w.alloc (.cells #[.string ⟨#[]⟩, .int .i64 0, .slice none 0 0] 24)).alloc (.cells #[.string s, .int .i64 0] 67)) w.heap.size #[.string ⟨#[]⟩, .int .i64 0, .slice none 0 0] 24 from (Blk.new w _ 24).alloc _)
 have HB := Lib.hid (((Below.refl w.heap.size w).alloc (Nat.le_refl _) (.cells #[.string ⟨#[]⟩, .int .i64 0, .slice none 0 0] 24)).alloc (by simp) (.cells #[.string s, .int .i64 0] 67))
 have HG := Lib.hid (show IsS67 w ((w.alloc (.cells #[.string ⟨#[]⟩, .int .i64 0, .slice none 0 0] 24)).alloc (.cells #[.string s, .int .i64 0] 67)) (w.heap.size + 1) s 0 from ⟨by
  have h := Blk.new (w.alloc (.cells #[.string ⟨#[]⟩, .int .i64 0, .slice none 0 0] 24)) #[.string s, .int .i64 0] 67
  rwa [show (w.alloc (.cells #[.string ⟨#[]⟩, .int .i64 0, .slice none 0 0] 24)).heap.size = w.heap.size + 1 by simp] at h, by omega⟩)
 refine (outlawref25_reader_number.calls _ _ s 0 1 v1 s1 e1 w _ HG.out HB.out HN.out.1).mono ?_
 rintro e w1 ⟨rfl, hI, hb, hk⟩
 replace HZ := Lib.hid (blk_keep HZ.out hk (by omega))
 replace HG := Lib.hid hI
 replace HB := Lib.hid hb
 clear hI hb hk
 go_wp2_with fail
 refine (outlawref25_reader_take.calls _ _ s1 e1 v1 bot s2 e2 w _ HG.out HB.out HN.out.2.1).mono ?_
 rintro e w2 ⟨rfl, hI, hb, hk⟩
 replace HZ := Lib.hid (blk_keep HZ.out hk (by omega))
 have HJ := Lib.hid (Blk.new w2 #[.string bot, .int .i64 0, .slice none 0 0] 24)
 replace HG := Lib.hid (IsS67.alloc hI (.cells #[.string bot, .int .i64 0, .slice none 0 0] 24))
 have HL := Lib.hid (show w.heap.size + 1 < w2.heap.size from IsS67.lt hI)
 replace HB := Lib.hid (below_alloc hb (.cells #[.string bot, .int .i64 0, .slice none 0 0] 24))
 replace HZ := Lib.hid (HZ.out.alloc (.cells #[.string bot, .int .i64 0, .slice none 0 0] 24))
 clear hI hb hk
 go_wp2_with fail
 refine (outlawref25_reader_number.calls _ _ s2 e2 2 sec s3 e3 w _ HG.out HB.out HN.out.2.2.1).mono ?_
 rintro e w3 ⟨rfl, hI, hb, hk⟩
 have hneJ : w2.heap.size ≠ w.heap.size + 1 := by have := HL.out; omega
 have hneZ : w.heap.size ≠ w2.heap.size := by have := HL.out; omega
 replace HZ := Lib.hid (blk_keep HZ.out hk (by omega))
 replace HJ := Lib.hid (blk_keep HJ.out hk hneJ)
 replace HG := Lib.hid hI
 replace HB := Lib.hid hb
 clear hI hb hk
 obtain ⟨J, HJJ⟩ : ∃ J, Hid (w2.heap.size = J) := ⟨_, Lib.hid rfl⟩
 rw [HJJ.out] at HJ HL hneJ hneZ
 rw [HJJ.out]
 obtain ⟨y0, y1, y2, q0, q1, q2⟩ := three HJ.out
 go_wp2_with fail
 clear y0 y1 y2 q0 q1 q2
 replace HZ := Lib.hid (HZ.out.setElse hneZ 1 (.int .i64 sec))
 replace HG := Lib.hid (IsS67.far (p := ⟨J, 1, none⟩) HG.out hneJ.symm (.int .i64 sec))
 replace HB := Lib.hid (HB.out.setCell (p := ⟨J, 1, none⟩) (show w.heap.size ≤ J by have := HL.out; omega) (.int .i64 sec))
 replace HJ := Lib.hid (show Blk (w3.setCell ⟨J, 1, none⟩ (.int .i64 sec)) J #[.string bot, .int .i64 sec, .slice none 0 0] 24 from HJ.out.set 1 (.int .i64 sec))
 refine (outlawref25_reader_number.calls _ _ s3 e3 2 n s4 e4 w _ HG.out HB.out HN.out.2.2.2).mono ?_
 rintro e w4 ⟨rfl, hI, hb, hk⟩
 replace HZ := Lib.hid (blk_keep HZ.out hk (by omega))
 replace HJ := Lib.hid (blk_keep HJ.out hk hneJ)
 replace HG := Lib.hid hI
 replace HB := Lib.hid hb
 clear hI hb hk HJJ HN
 obtain ⟨m, rfl⟩ := Int.eq_ofNat_of_zero_le HV.out.2.1
 go_wp2_with fail
 go_loopw [6] (fun i wr => ∃ (q : Nat) (acc : List S45) (st : ByteArray) (er : Int) (v : Value), i = .int .i64 q ∧ Hid (q + acc.length ≤ 65535 ∧ Inv s bot sec q acc st er ∧ Kd.S k45 45 wr w.heap.size (fun _ => True) v acc ∧ IsS67 w wr (w.heap.size + 1) st er ∧ Below w.heap.size w wr ∧ Blk wr J #[.string bot, .int .i64 sec, v] 24 ∧ Blk wr w.heap.size #[.string ⟨#[]⟩, .int .i64 0, .slice none 0 0] 24)) (fun i _ => (intOf i).toNat)
 case atStart => exact ⟨m, [], s4, e4, .slice none 0 0, rfl, Lib.hid ⟨by have := HV.out.2.2.1; show m + 0 ≤ 65535; omega, by have := HV.out.1; rwa [Int.toNat_natCast] at this, Kd.S_nil _ _ _ _ _, HG.out, HB.out, HJ.out, HZ.out⟩⟩
 case round =>
  clear HG HB HJ HZ
  obtain ⟨q, acc, st, er, v, rfl, HX0⟩ := hrel
  have HX := Lib.hid (And.intro HX0.out.2.2.1 (And.intro HX0.out.2.2.2.2.2.1 (And.intro HX0.out.1 HX0.out.2.1)))
  have HG := Lib.hid HX0.out.2.2.2.1
  have HB := Lib.hid HX0.out.2.2.2.2.1
  have HZ := Lib.hid HX0.out.2.2.2.2.2.2
  clear HX0
  have g0 := cellS67_0 HG.out.1
  have g1 := cellS67_1 HG.out.1
  have gf := blk_frozen HG.out.1 1
  by_cases he : er = 0
  ·subst he
   cases q with
   | zero =>
    have HE := Lib.hid (inv_end HX.out.2.2.2)
    by_cases hz : st.size = 0
    ·have hzn : st.toList = [] := size_nil.2 hz
     have hzb : (st.toList == []) = true := by rw [hzn]; rfl
     have hzz : st.toList.isEmpty = true := by rw [hzn]; rfl
     have HP := Lib.hid ((HE.out).trans (if_pos hz))
     have HF := Lib.hid (scriptP_few HP.out)
     obtain ⟨⟨c1, c2⟩, hc⟩ : ∃ z, checkS bot sec acc = z := ⟨_, rfl⟩
     have HQ := Lib.hid (show readS s = if c2 = 0 then (bot, sec, acc, 0) else (⟨#[]⟩, 0, [], c2) by unfold readS; rw [HP.out]; show (if (checkS bot sec acc).2 = 0 then _ else _) = _; rw [hc])
     obtain ⟨kc, hkc⟩ := (refcheck_ev bot sec acc HF.out.1 (Nat.le_trans HF.out.2 (by decide))).rounds
     rw [hc] at hkc
     obtain ⟨A1, cp, rfl⟩ := Kd.S_slice HX.out.1
     obtain ⟨-, hle, hCr⟩ := Kd.S_reads' HX.out.1
     obtain ⟨y0, y1, y2, q0, q1, q2⟩ := three HX.out.2.1
     clear hz hc
     go_wp2_with fail
     refine (outlawref25_Check.calls kc bot sec A1 cp acc c1 c2 _ hCr hle hkc).mono ?_
     rintro e w5 ⟨rfl, hb⟩
     replace HX := Lib.hid (And.intro (Kd.S_below HX.out.1 hb) (HX.out.2.1.below hb HX.out.2.1.lt))
     replace HG := Lib.hid (IsS67.below HG.out hb)
     replace HZ := Lib.hid (HZ.out.below hb HZ.out.lt)
     replace HB := Lib.hid (HB.out.trans (hb.mono HB.out.size))
     clear hb hle hCr hkc y0 y1 y2 q0 q1 q2 g0 g1 gf
     have g1 := cellS67_1 HG.out.1
     have gf := blk_frozen HG.out.1 1
     obtain ⟨y0, y1, y2, q0, q1, q2⟩ := three HX.out.2
     obtain ⟨x0, x1, x2, p0, p1, p2⟩ := three HZ.out
     have n1 : w.heap.size ≠ w.heap.size + 1 := by omega
     have n2 : w.heap.size + 1 ≠ w.heap.size := by omega
     have n3 : w.heap.size + 1 ≠ J := hneJ.symm
     by_cases h0 : c2 = 0
     ·subst h0
      obtain rfl : (bot, sec, acc, (0 : Int)) = r := (HQ.out.trans (if_pos rfl)).symm.trans HR.out
      go_wp2_with fail
      have hZF := set3 (HZ.out.setElse n1 1 (.int .i64 0)) (.string bot) (.int .i64 sec) (.slice A1 acc.length cp)
      have hSF := rkset3 (Kd.S_set HX.out.1 HG.out.1 (by decide) 1 (.int .i64 0)) (HZ.out.setElse n1 1 (.int .i64 0)) (.string bot) (.int .i64 sec) (.slice A1 acc.length cp)
      have hBF := (((HB.out.setCell (p := ⟨w.heap.size + 1, 1, none⟩) (Nat.le_succ _) (.int .i64 0)).setCell (p := ⟨w.heap.size, 0, none⟩) (Nat.le_refl _) (.string bot)).setCell (p := ⟨w.heap.size, 1, none⟩) (Nat.le_refl _) (.int .i64 sec)).setCell (p := ⟨w.heap.size, 2, none⟩) (Nat.le_refl _) (.slice A1 acc.length cp)
      refine bodyPost_ret (res20 hZF rfl rfl) rfl ⟨_, rfl, hSF, hBF⟩
     ·have hcb : (c2 != 0) = true := by simpa using h0
      obtain rfl : ((⟨#[]⟩ : ByteArray), (0 : Int), ([] : List S45), c2) = r := (HQ.out.trans (if_neg h0)).symm.trans HR.out
      clear h0 x0 x1 x2 p0 p1 p2 y0 y1 y2 q0 q1 q2
      have HG5 := Lib.hid (IsS67.set_1 HG.out c2)
      have HB5 := Lib.hid (HB.out.setCell (p := ⟨w.heap.size + 1, 1, none⟩) (Nat.le_succ _) (.int .i64 c2))
      have HZ5 := Lib.hid (HZ.out.setElse (show w.heap.size ≠ w.heap.size + 1 by omega) 1 (.int .i64 c2))
      go_wp2_with fail
      generalize (w5.setCell ⟨w.heap.size + 1, 1, none⟩ (.int .i64 c2)) = W9 at HG5 HB5 HZ5 ⊢
      refine start_ (n := 7) (S := fun w' => w'.cell? ⟨w.heap.size + 1, 1, none⟩ = some (.int .i64 c2)) (ds := []) #[false, false, false, false, false, false, false] (by as_aux_lemma => kernel_rfl) rfl rfl (cellS67_1 HG5.out.1) (fun hHeld => ?_)
      refine pq_ 0 71 (mb_ 7 1) rfl ?_
      refine pq_ 1 72 (mb_ 7 3) rfl ?_
      refine pq_ 2 73 (mb_ 7 7) rfl ?_
      refine pq_ 3 74 (mb_ 7 15) rfl ?_
      refine take_ (i := 4) (N := some 75) (v := ?_) (a' := ?_) #[true, true, true, true, true, false, false] rfl rfl (by as_aux_lemma => kernel_rfl) (fun _ _ _ h => h) (Or.inl ⟨by rfl, ?_⟩) hHeld ?_ ?_
      rotate_left
      ·rintro w' s2
       go_simp
       with_reducible rfl
      rotate_left
      ·simp only [Act.put, List.setIfInBounds_toArray, List.set_cons_zero, List.set_cons_succ, i64_w, i32_w]
       rfl
      obtain ⟨W5, hW5⟩ : ∃ W5 : World, (((W9.drew.setCell ⟨w.heap.size, 0, none⟩ (.string ⟨#[]⟩)).setCell ⟨w.heap.size, 1, none⟩ (.int .i64 0)).setCell ⟨w.heap.size, 2, none⟩ (.slice none 0 0)) = W5 := ⟨_, rfl⟩
      have hZ5 : Blk W5 w.heap.size #[.string ⟨#[]⟩, .int .i64 0, .slice none 0 0] 24 := by rw [← hW5]; exact set3 (HZ5.out.drew) _ _ _
      have hB5 : Below w.heap.size w W5 := by rw [← hW5]; exact ((HB5.out.drew.setCell (p := ⟨w.heap.size, 0, none⟩) (Nat.le_refl _) _).setCell (p := ⟨w.heap.size, 1, none⟩) (Nat.le_refl _) _).setCell (p := ⟨w.heap.size, 2, none⟩) (Nat.le_refl _) _
      have hC5 : W5.cell? ⟨w.heap.size + 1, 1, none⟩ = some (.int .i64 c2) := by rw [← hW5]; exact cellS67_1 ((IsS67.far (p := ⟨w.heap.size, 2, none⟩) (IsS67.far (p := ⟨w.heap.size, 1, none⟩) (IsS67.far (p := ⟨w.heap.size, 0, none⟩) HG5.out.drew (show w.heap.size + 1 ≠ w.heap.size by omega) _) (show w.heap.size + 1 ≠ w.heap.size by omega) _) (show w.heap.size + 1 ≠ w.heap.size by omega) _)).1
      refine one_ (i := 5) (N := none) (mb_ 7 63) rfl rfl (by as_aux_lemma => kernel_rfl) (by decide) (fun K hK => ?_)
      obtain ⟨k0, k1, k2, z0, z1, z2⟩ := three HZ5.out
      refine skip_ (w1 := W5) (by rfl) rfl ?_ ?_
      ·rw [← hW5]
       go_simp
      refine hK.out _ _ hC5 (fun hHeld9 => ?_)
      clear hK K k0 k1 k2 z0 z1 z2 hHeld9 hW5
      refine pq_ 6 3 (mb_ 7 127) rfl ?_
      refine done_ (by as_aux_lemma => kernel_rfl) ?_
      go_wp2_with fail
      refine bodyPost_ret (res20 hZ5 rfl rfl) rfl ⟨_, rfl, Kd.S_nil _ _ _ _ _, hB5⟩
    ·have hzn : ¬ st.toList = [] := fun h => hz (size_nil.1 h)
     have hzb : (st.toList == []) = false := by simpa using hzn
     have hzz : st.toList.isEmpty = false := by rw [List.isEmpty_eq_false_iff]; exact hzn
     have HQ := Lib.hid (show readS s = (⟨#[]⟩, 0, [], 5) by unfold readS; rw [HE.out, if_neg hz])
     obtain rfl := HQ.out.symm.trans HR.out
     clear hz
     go_wp2_with fail
     have HG5 := Lib.hid (IsS67.set_1 HG.out 5)
     have HB5 := Lib.hid (HB.out.setCell (p := ⟨w.heap.size + 1, 1, none⟩) (Nat.le_succ _) (.int .i64 5))
     have HZ5 := Lib.hid (HZ.out.setElse (show w.heap.size ≠ w.heap.size + 1 by omega) 1 (.int .i64 5))
     generalize (wr.setCell ⟨w.heap.size + 1, 1, none⟩ (.int .i64 5)) = W9 at HG5 HB5 HZ5 ⊢
     refine start_ (n := 7) (S := fun w' => w'.cell? ⟨w.heap.size + 1, 1, none⟩ = some (.int .i64 5)) (ds := []) #[false, false, false, false, false, false, false] (by as_aux_lemma => kernel_rfl) rfl rfl (cellS67_1 HG5.out.1) (fun hHeld => ?_)
     refine pq_ 0 71 (mb_ 7 1) rfl ?_
     refine pq_ 1 72 (mb_ 7 3) rfl ?_
     refine pq_ 2 73 (mb_ 7 7) rfl ?_
     refine pq_ 3 74 (mb_ 7 15) rfl ?_
     refine take_ (i := 4) (N := some 75) (v := ?_) (a' := ?_) #[true, true, true, true, true, false, false] rfl rfl (by as_aux_lemma => kernel_rfl) (fun _ _ _ h => h) (Or.inl ⟨by rfl, ?_⟩) hHeld ?_ ?_
     rotate_left
     ·rintro w' s2
      go_simp
      with_reducible rfl
     rotate_left
     ·simp only [Act.put, List.setIfInBounds_toArray, List.set_cons_zero, List.set_cons_succ, i64_w, i32_w]
      rfl
     obtain ⟨W5, hW5⟩ : ∃ W5 : World, (((W9.drew.setCell ⟨w.heap.size, 0, none⟩ (.string ⟨#[]⟩)).setCell ⟨w.heap.size, 1, none⟩ (.int .i64 0)).setCell ⟨w.heap.size, 2, none⟩ (.slice none 0 0)) = W5 := ⟨_, rfl⟩
     have hZ5 : Blk W5 w.heap.size #[.string ⟨#[]⟩, .int .i64 0, .slice none 0 0] 24 := by rw [← hW5]; exact set3 (HZ5.out.drew) _ _ _
     have hB5 : Below w.heap.size w W5 := by rw [← hW5]; exact ((HB5.out.drew.setCell (p := ⟨w.heap.size, 0, none⟩) (Nat.le_refl _) _).setCell (p := ⟨w.heap.size, 1, none⟩) (Nat.le_refl _) _).setCell (p := ⟨w.heap.size, 2, none⟩) (Nat.le_refl _) _
     have hC5 : W5.cell? ⟨w.heap.size + 1, 1, none⟩ = some (.int .i64 5) := by rw [← hW5]; exact cellS67_1 ((IsS67.far (p := ⟨w.heap.size, 2, none⟩) (IsS67.far (p := ⟨w.heap.size, 1, none⟩) (IsS67.far (p := ⟨w.heap.size, 0, none⟩) HG5.out.drew (show w.heap.size + 1 ≠ w.heap.size by omega) _) (show w.heap.size + 1 ≠ w.heap.size by omega) _) (show w.heap.size + 1 ≠ w.heap.size by omega) _)).1
     refine one_ (i := 5) (N := none) (mb_ 7 63) rfl rfl (by as_aux_lemma => kernel_rfl) (by decide) (fun K hK => ?_)
     obtain ⟨k0, k1, k2, z0, z1, z2⟩ := three HZ5.out
     refine skip_ (w1 := W5) (by rfl) rfl ?_ ?_
     ·rw [← hW5]
      go_simp
     refine hK.out _ _ hC5 (fun hHeld9 => ?_)
     clear hK K k0 k1 k2 z0 z1 z2 hHeld9 hW5
     refine pq_ 6 3 (mb_ 7 127) rfl ?_
     refine done_ (by as_aux_lemma => kernel_rfl) ?_
     go_wp2_with fail
     refine bodyPost_ret (res20 hZ5 rfl rfl) rfl ⟨_, rfl, Kd.S_nil _ _ _ _ _, hB5⟩
   | succ q =>
     go_wp2_with fail
     refine start_ (n := 8) (S := fun w' => w'.cell? ⟨J, 2, none⟩ = some v) (ds := [7]) #[false, false, false, false, false, false, false, false] (by as_aux_lemma => kernel_rfl) rfl rfl (HX.out.2.1.cell 2) (fun hHeld => ?_)
     obtain ⟨y, r5, ee, hcall, hInv⟩ : ∃ (y : S45) (r5 : ByteArray) (ee : Int), outlawref25_reader_step.f 600 st 0 = some (y.f0, y.f1.f0, y.f1.f1, y.f1.f2, y.f1.f3, y.f1.f4, y.f2, r5, ee) ∧ Inv s bot sec q (acc ++ [y]) r5 ee := by
      have hsv := step_val st
      cases hs : stepP st with
      | ok y r5 =>
       rw [hs] at hsv
       exact ⟨y, r5, 0, hsv, inv_ok HX.out.2.2.2 hs⟩
      | bad x =>
       rw [hs] at hsv
       obtain ⟨hx, y, r5, hyl, hsv⟩ := hsv
       exact ⟨y, r5, x, hsv, inv_no HX.out.2.2.2 hs hx⟩
     have HS := Lib.hid (And.intro hcall hInv)
     clear hcall hInv g0 g1 gf
     replace HX := Lib.hid (And.intro (Kd.S_drew HX.out.1) (And.intro HX.out.2.1.drew HX.out.2.2.1))
     replace HG := Lib.hid HG.out.drew
     replace HB := Lib.hid HB.out.drew
     replace HZ := Lib.hid HZ.out.drew
     generalize wr.drew = w4 at HX HG HB HZ hHeld ⊢
     refine pq_ 0 31 (mb_ 8 1) rfl ?_
     refine pq_ 2 33 (mb_ 8 5) rfl ?_
     refine take_ (i := 1) (N := some 32) (v := ?_) (a' := ?_) #[true, true, true, false, false, false, false, false] rfl rfl (by as_aux_lemma => kernel_rfl) (fun _ _ _ h => h) (Or.inl ⟨by rfl, ?_⟩) hHeld ?_ ?_
     rotate_left
     ·rintro w' s2
      go_simp
      with_reducible rfl
     rotate_left
     ·simp only [Act.put, List.setIfInBounds_toArray, List.set_cons_zero, List.set_cons_succ, i64_w, i32_w]
      rfl
     refine one_ (i := 3) (N := some 34) (mb_ 8 15) rfl rfl (by as_aux_lemma => kernel_rfl) (by decide) (fun K hK => ?_)
     refine goes_ Try.func42 (by as_aux_lemma => kernel_rfl) rfl #[.pointer (some ⟨w.heap.size + 1, 0, none⟩)] (by rfl) rfl rfl (by (try simp only [List.map_toArray, List.map_cons, List.map_nil]); first | done | rfl) ?_
     refine (outlawref25_reader_step.calls 600 _ st 0 y.f0 y.f1.f0 y.f1.f1 y.f1.f2 y.f1.f3 y.f1.f4 y.f2 r5 ee w w4 HG.out HB.out HS.out.1).mono ?_
     rintro e w5 ⟨vc, rfl, hRc, hI, hb, hk⟩
     refine ⟨_, rfl, ?_⟩
     have HR5 := Lib.hid (Kd.S_mono (ok' := fun k => True ∧ ¬ w4.heap.size ≤ k) (Kd.S_oldK (Kd.S_types HX.out.1 HG.out.1 (by decide)) hk) (fun k hk => ⟨trivial, by have := hk.2; omega⟩))
     have HM5 := Lib.hid (k45_mkM w5 w.heap.size (fun k => w4.heap.size ≤ k) y (Kd.R_lower (Kd.R_mono (Kd.R_bound hRc) (fun k hk => hk.2.1)) HB.out.size))
     have HV5 := Lib.hid (show ∀ k, w4.heap.size ≤ k → True ∧ some k ≠ v.ownBlock from fun k hk => ⟨trivial, fun he => by have := Kd.S_lt HX.out.1 k he.symm; omega⟩)
     obtain ⟨Av, cv, rfl⟩ := Kd.R_slice hRc
     have HJ5 := Lib.hid (blk_keep HX.out.2.1 hk hneJ)
     have HZ5 := Lib.hid (blk_keep HZ.out hk (show w.heap.size ≠ w.heap.size + 1 by omega))
     have HG5 := Lib.hid hI
     have HB5 := Lib.hid hb
     have HL5 := Lib.hid (show w.heap.size ≤ w5.heap.size from hb.size)
     have HZ0 := Lib.hid (show (acc.length + 1) * 80 ≤ 140737488355328 by have := HX.out.2.2; omega)
     have HX1 := Lib.hid (And.intro HX.out.2.2 trivial)
     clear hRc hI hb hk HX HG HB HZ
     refine hK.out _ _ (HJ5.out.cell 2) (fun hHeld2 => ?_)
     clear hK K hHeld
     have hHeld := hHeld2
     clear hHeld2
     refine norm_ (a' := ?_) ?_ ?_
     rotate_left
     ·show Act.put _ (some 34) _ = _
      simp only [Act.put, List.setIfInBounds_toArray, List.set_cons_zero, List.set_cons_succ, i64_w, i32_w]
      rfl
     refine one_ (i := 4) (N := some 35) (mb_ 8 31) rfl rfl (by as_aux_lemma => kernel_rfl) (by decide) (fun K hK => ?_)
     refine value_ (w1 := ?_) (v := ?_) (by rfl) rfl ?_ ?_
     rotate_left 2
     ·go_simp
      constructor
      ·rfl
      ·rfl
     refine hK.out _ _ ((HJ5.out.alloc _).cell 2) (fun hHeld2 => ?_)
     clear hK K hHeld
     have hHeld := hHeld2
     clear hHeld2
     refine norm_ (a' := ?_) ?_ ?_
     rotate_left
     ·show Act.put _ (some 35) _ = _
      simp only [Act.put, List.setIfInBounds_toArray, List.set_cons_zero, List.set_cons_succ, i64_w, i32_w]
      rfl
     refine one_ (i := 5) (N := some 36) (mb_ 8 63) rfl rfl (by as_aux_lemma => kernel_rfl) (by decide) (fun K hK => ?_)
     refine Kd.S_append_step k45 w.heap.size (by rfl) (.tmp 32) (.tmp 35) 22 45 (.agg #[.bool false, .int .i64 0, .int .i64 0, .int .i64 0, .bool false, .string ⟨#[]⟩, .slice none 0 0]) 80 rfl Try.underlying22 info45 rfl (show 0 < 7 by decide) (by decide) v acc y _ (fun _ => True) (fun k => w4.heap.size ≤ k) rfl rfl HM5.out HV5.out (fun _ _ => trivial) HR5.out (Below.refl _ _) HL5.out HZ0.out ?_
     intro v1 w6 ho hb hg hat
     obtain ⟨A1, c1, rfl⟩ := Kd.S_slice ho
     rw [show (acc ++ [y]).length = acc.length + 1 by simp] at ho
     have HR6 := Lib.hid ho
     have HB6 := Lib.hid (HB5.out.trans hb)
     have HG6 := Lib.hid (IsS67.grown HG5.out hg (IsS67.own_neS HG5.out HR5.out (by decide)))
     have HJ6 := Lib.hid (blk_of_grown HJ5.out hg HR5.out (by decide))
     have HZ6 := Lib.hid (blk_of_grown HZ5.out hg HR5.out (by decide))
     clear ho hb hg hat HR5 HB5 HG5 HJ5 HZ5 HM5
     refine hK.out _ _ (HJ6.out.cell 2) (fun hHeld2 => ?_)
     clear hK K hHeld
     have hHeld := hHeld2
     clear hHeld2
     refine norm_ (a' := ?_) ?_ ?_
     rotate_left
     ·show Act.put _ (some 36) _ = _
      simp only [Act.put, List.setIfInBounds_toArray, List.set_cons_zero, List.set_cons_succ, i64_w, i32_w]
      rfl
     refine pq_ 6 37 (mb_ 8 127) rfl ?_
     refine last_ (i := 7) (N := none) (mb_ 8 255) rfl rfl (by as_aux_lemma => kernel_rfl) (by decide) (fun K hK => ?_)
     have hs41 := hHeld
     have hfs41 := HJ6.out.frozen 2
     refine skip_ (w1 := ?_) (by rfl) rfl ?_ ?_
     rotate_left
     ·go_simp
      rfl
     refine hK.out _ _ ?_
     clear hK K
     refine done_ (by as_aux_lemma => kernel_rfl) ?_
     go_wp2_with fail
     have hw1 : wrap64 (q : Int) = (q : Int) := by have := HX1.out.1; unfold wrap64; omega
     rw [hw1]
     refine ⟨⟨q, acc ++ [y], r5, ee, .slice A1 (acc.length + 1) c1, rfl, Lib.hid ⟨by rw [List.length_append]; show q + (acc.length + 1) ≤ 65535; have := HX1.out.1; omega, HS.out.2, rkset HR6.out HJ6.out 2 _, IsS67.far (p := ⟨J, 2, none⟩) HG6.out hneJ.symm _, HB6.out.setCell (p := ⟨J, 2, none⟩) (show w.heap.size ≤ J by have := HL.out; omega) _, HJ6.out.set 2 _, HZ6.out.setElse hneZ 2 _⟩⟩, ?_⟩
     show ((q : Int)).toNat < (((q + 1 : Nat) : Int)).toNat
     omega
  ·have HQ := Lib.hid (inv_err HX.out.2.2.2 he)
   obtain rfl := HQ.out.symm.trans HR.out
   have heb : (er == 0) = false := by simpa using he
   have hen : (er != 0) = true := by simpa using he
   clear he
   cases q with
   | zero =>
     go_wp2_with fail
     refine start_ (n := 7) (S := fun w' => w'.cell? ⟨w.heap.size + 1, 1, none⟩ = some (.int .i64 er)) (ds := []) #[false, false, false, false, false, false, false] (by as_aux_lemma => kernel_rfl) rfl rfl (cellS67_1 HG.out.1) (fun hHeld => ?_)
     refine pq_ 0 71 (mb_ 7 1) rfl ?_
     refine pq_ 1 72 (mb_ 7 3) rfl ?_
     refine pq_ 2 73 (mb_ 7 7) rfl ?_
     refine pq_ 3 74 (mb_ 7 15) rfl ?_
     refine take_ (i := 4) (N := some 75) (v := ?_) (a' := ?_) #[true, true, true, true, true, false, false] rfl rfl (by as_aux_lemma => kernel_rfl) (fun _ _ _ h => h) (Or.inl ⟨by rfl, ?_⟩) hHeld ?_ ?_
     rotate_left
     ·rintro w' s2
      go_simp
      with_reducible rfl
     rotate_left
     ·simp only [Act.put, List.setIfInBounds_toArray, List.set_cons_zero, List.set_cons_succ, i64_w, i32_w]
      rfl
     obtain ⟨W5, hW5⟩ : ∃ W5 : World, (((wr.drew.setCell ⟨w.heap.size, 0, none⟩ (.string ⟨#[]⟩)).setCell ⟨w.heap.size, 1, none⟩ (.int .i64 0)).setCell ⟨w.heap.size, 2, none⟩ (.slice none 0 0)) = W5 := ⟨_, rfl⟩
     have hZ5 : Blk W5 w.heap.size #[.string ⟨#[]⟩, .int .i64 0, .slice none 0 0] 24 := by rw [← hW5]; exact set3 (HZ.out.drew) _ _ _
     have hB5 : Below w.heap.size w W5 := by rw [← hW5]; exact ((HB.out.drew.setCell (p := ⟨w.heap.size, 0, none⟩) (Nat.le_refl _) _).setCell (p := ⟨w.heap.size, 1, none⟩) (Nat.le_refl _) _).setCell (p := ⟨w.heap.size, 2, none⟩) (Nat.le_refl _) _
     have hC5 : W5.cell? ⟨w.heap.size + 1, 1, none⟩ = some (.int .i64 er) := by rw [← hW5]; exact cellS67_1 ((IsS67.far (p := ⟨w.heap.size, 2, none⟩) (IsS67.far (p := ⟨w.heap.size, 1, none⟩) (IsS67.far (p := ⟨w.heap.size, 0, none⟩) HG.out.drew (show w.heap.size + 1 ≠ w.heap.size by omega) _) (show w.heap.size + 1 ≠ w.heap.size by omega) _) (show w.heap.size + 1 ≠ w.heap.size by omega) _)).1
     refine one_ (i := 5) (N := none) (mb_ 7 63) rfl rfl (by as_aux_lemma => kernel_rfl) (by decide) (fun K hK => ?_)
     obtain ⟨k0, k1, k2, z0, z1, z2⟩ := three HZ.out
     refine skip_ (w1 := W5) (by rfl) rfl ?_ ?_
     ·rw [← hW5]
      go_simp
     refine hK.out _ _ hC5 (fun hHeld9 => ?_)
     clear hK K k0 k1 k2 z0 z1 z2 hHeld9 hW5
     refine pq_ 6 3 (mb_ 7 127) rfl ?_
     refine done_ (by as_aux_lemma => kernel_rfl) ?_
     go_wp2_with fail
     refine bodyPost_ret (res20 hZ5 rfl rfl) rfl ⟨_, rfl, Kd.S_nil _ _ _ _ _, hB5⟩
   | succ q =>
     go_wp2_with fail
     refine start_ (n := 7) (S := fun w' => w'.cell? ⟨w.heap.size + 1, 1, none⟩ = some (.int .i64 er)) (ds := []) #[false, false, false, false, false, false, false] (by as_aux_lemma => kernel_rfl) rfl rfl (cellS67_1 HG.out.1) (fun hHeld => ?_)
     refine pq_ 0 71 (mb_ 7 1) rfl ?_
     refine pq_ 1 72 (mb_ 7 3) rfl ?_
     refine pq_ 2 73 (mb_ 7 7) rfl ?_
     refine pq_ 3 74 (mb_ 7 15) rfl ?_
     refine take_ (i := 4) (N := some 75) (v := ?_) (a' := ?_) #[true, true, true, true, true, false, false] rfl rfl (by as_aux_lemma => kernel_rfl) (fun _ _ _ h => h) (Or.inl ⟨by rfl, ?_⟩) hHeld ?_ ?_
     rotate_left
     ·rintro w' s2
      go_simp
      with_reducible rfl
     rotate_left
     ·simp only [Act.put, List.setIfInBounds_toArray, List.set_cons_zero, List.set_cons_succ, i64_w, i32_w]
      rfl
     obtain ⟨W5, hW5⟩ : ∃ W5 : World, (((wr.drew.setCell ⟨w.heap.size, 0, none⟩ (.string ⟨#[]⟩)).setCell ⟨w.heap.size, 1, none⟩ (.int .i64 0)).setCell ⟨w.heap.size, 2, none⟩ (.slice none 0 0)) = W5 := ⟨_, rfl⟩
     have hZ5 : Blk W5 w.heap.size #[.string ⟨#[]⟩, .int .i64 0, .slice none 0 0] 24 := by rw [← hW5]; exact set3 (HZ.out.drew) _ _ _
     have hB5 : Below w.heap.size w W5 := by rw [← hW5]; exact ((HB.out.drew.setCell (p := ⟨w.heap.size, 0, none⟩) (Nat.le_refl _) _).setCell (p := ⟨w.heap.size, 1, none⟩) (Nat.le_refl _) _).setCell (p := ⟨w.heap.size, 2, none⟩) (Nat.le_refl _) _
     have hC5 : W5.cell? ⟨w.heap.size + 1, 1, none⟩ = some (.int .i64 er) := by rw [← hW5]; exact cellS67_1 ((IsS67.far (p := ⟨w.heap.size, 2, none⟩) (IsS67.far (p := ⟨w.heap.size, 1, none⟩) (IsS67.far (p := ⟨w.heap.size, 0, none⟩) HG.out.drew (show w.heap.size + 1 ≠ w.heap.size by omega) _) (show w.heap.size + 1 ≠ w.heap.size by omega) _) (show w.heap.size + 1 ≠ w.heap.size by omega) _)).1
     refine one_ (i := 5) (N := none) (mb_ 7 63) rfl rfl (by as_aux_lemma => kernel_rfl) (by decide) (fun K hK => ?_)
     obtain ⟨k0, k1, k2, z0, z1, z2⟩ := three HZ.out
     refine skip_ (w1 := W5) (by rfl) rfl ?_ ?_
     ·rw [← hW5]
      go_simp
     refine hK.out _ _ hC5 (fun hHeld9 => ?_)
     clear hK K k0 k1 k2 z0 z1 z2 hHeld9 hW5
     refine pq_ 6 3 (mb_ 7 127) rfl ?_
     refine done_ (by as_aux_lemma => kernel_rfl) ?_
     go_wp2_with fail
     refine bodyPost_ret (res20 hZ5 rfl rfl) rfl ⟨_, rfl, Kd.S_nil _ _ _ _ _, hB5⟩
def outlawref25_Read.f (s : ByteArray) : Option (ByteArray × Int × List S45 × Int) := some (readS s)
theorem outlawref25_Read.calls (s : ByteArray) (r1 : ByteArray) (r2 : Int) (r3 : List S45) (r4 : Int) (w : World) (h : outlawref25_Read.f s = some (r1, r2, r3, r4)) :
  Calls Try.prog 20 #[.string s] w fun e w' => ∃ v : Value, e = .returned (.tuple #[.agg #[.string r1, .int .i64 r2, v], .int .i64 r4]) ∧ Kd.S k45 45 w' w.heap.size (fun _ => True) v r3 ∧ Below w.heap.size w w' :=
 refread_any s w _ (Option.some.inj h)
end Go.Proofs.YtfgibjkgiolonaaS
