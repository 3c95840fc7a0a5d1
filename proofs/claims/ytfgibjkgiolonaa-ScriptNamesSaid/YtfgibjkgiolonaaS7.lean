/- script.Read: the script that bytes are, or what is wrong. -/
import Derived.Test.YtfgibjkgiolonaaSa
import Derived.Test.YtfgibjkgiolonaaS6
set_option linter.unusedVariables false
set_option linter.unusedSimpArgs false
namespace Go.Proofs.YtfgibjkgiolonaaS
open Go.RowKit Go.Proofs.YtfgibjkgiolonaaW.PrintWords Go.Proofs.YtfgibjkgiolonaaW.PrintLast Go.Proofs.YtfgibjkgiolonaaW.PrintMore Go.Proofs.YtfgibjkgiolonaaX Go.Proofs.Ytfgibjkgiolonaa.PA Go.Proofs.YtfgibjkgiolonaaG
theorem hta27 (x : Int) (w : World) : (Instr.typeAssert (.iface 27 (.int .i64 x)) 20 27 true).run Try.prog w = .ok (.tuple #[.int .i64 x, .bool true]) w := by
 simp [Instr.typeAssert, go_sem, Try.underlying27]
set_option maxHeartbeats 4000000 in
theorem catchE (I J : Nat) (c0 c1 c2 d : Value) (x : Int) (older : List PanicEntry) (w : World) (hI : Blk w I #[c0, c1, c2] 24) (hJ : Blk w J #[d] 27) (hIJ : I ≠ J) :
  CallsD Try.prog 29 #[.pointer (some ⟨I, 0, none⟩), .pointer (some ⟨J, 0, none⟩)] (.panicking ({ v := .iface 27 (.int .i64 x), recovered := false } :: older)) w fun e u' w' =>
   e = .returned (.tuple #[]) ∧ u' = .panicking ({ v := .iface 27 (.int .i64 x), recovered := true } :: older) ∧ Blk w' I #[.string ⟨#[]⟩, .int .i64 0, .slice none 0 0] 24 ∧ Blk w' J #[.int .i64 x] 27 ∧ Below (min I J) w w' := by
 refine callsD_of_wpS Try.func29 rfl fun c₀ cs hu => ?_
 apply wpS_seq
 apply wpS_region
 simp [wpOpsS, go_sem, recoverD, hu, Try.ntmps29, Exit.thenS]
 refine wpS_of_wp (wp_any fun K hK => ?_)
 rw [show ∀ v : Value, (#[Value.pointer (some { block := I, off := 0 }), Value.pointer (some { block := J, off := 0 })] ++ ((Array.replicate 16 undef).setIfInBounds 3 v).setIfInBounds 0 v) = #[Value.pointer (some { block := I, off := 0 }), Value.pointer (some { block := J, off := 0 }), v, undef, undef, v, undef, undef, undef, undef, undef, undef, undef, undef, undef, undef, undef, undef] from fun _ => rfl]
 obtain ⟨y0, y1, y2, z0, z1, z2⟩ := three hI
 have v0 := hJ.cell 0
 have v1 := hJ.frozen 0
 have HI := Lib.hid hI
 have HJ := Lib.hid hJ
 have HU := Lib.hid hu
 clear hI hJ hu
 have ht := fun (W : World) => hta27 x W
 have ne5 := hIJ.symm
 go_wp2_with fail
 refine hK.out _ _ _ ⟨rfl, _, rfl, .tuple #[], ?_, rfl, rfl, ?_, ?_, ?_⟩
 ·simp [results, Try.results29]
 ·exact (set3 HI.out _ _ _).setElse hIJ 0 _
 ·exact ((((HJ.out.setElse hIJ.symm 0 _).setElse hIJ.symm 1 _).setElse hIJ.symm 2 _).set 0 (.int .i64 x))
 ·have hb : ∀ W, Below (min I J) w W → ∀ o u, Below (min I J) w (W.setCell ⟨I, o, none⟩ u) := fun W h o u => h.setCell (p := ⟨I, o, none⟩) (Nat.min_le_left I J) u
  have hb2 : ∀ W, Below (min I J) w W → ∀ o u, Below (min I J) w (W.setCell ⟨J, o, none⟩ u) := fun W h o u => h.setCell (p := ⟨J, o, none⟩) (Nat.min_le_right I J) u
  exact hb2 _ (hb _ (hb _ (hb _ (Below.refl _ w) _ _) _ _) _ _) _ _
set_option maxHeartbeats 4000000 in
theorem idleE (p q : Addr) (w : World) :
  CallsD Try.prog 29 #[.pointer (some p), .pointer (some q)] .returning w fun e u' w' => e = .returned (.tuple #[]) ∧ u' = .returning ∧ w' = w := by
 refine callsD_of_wpS Try.func29 rfl fun c₀ cs hu => ?_
 apply wpS_seq
 apply wpS_region
 simp [wpOpsS, go_sem, recoverD, hu, Try.ntmps29, Exit.thenS]
 refine wpS_of_wp (wp_any fun K hK => ?_)
 rw [show ∀ v : Value, (#[Value.pointer (some p), Value.pointer (some q)] ++ ((Array.replicate 16 undef).setIfInBounds 3 v).setIfInBounds 0 v) = #[Value.pointer (some p), Value.pointer (some q), v, undef, undef, v, undef, undef, undef, undef, undef, undef, undef, undef, undef, undef, undef, undef] from fun _ => rfl]
 have HU := Lib.hid hu
 clear hu
 go_wp2_with fail
 refine hK.out _ _ _ ⟨rfl, .returning, ?_, .tuple #[], ?_, rfl, rfl, rfl⟩
 ·rw [← HU.out]
 ·simp [results, Try.results29]
theorem res12 {w : World} {I J : Nat} {a b c x : Value} {tmps : Array Value} (h : Blk w I #[a, b, c] 24) (hJ : Blk w J #[x] 27) (ht : tmps.getD 2 undef = .pointer (some ⟨I, 0, none⟩)) (ht3 : tmps.getD 3 undef = .pointer (some ⟨J, 0, none⟩)) :
  (results Try.f12 tmps).run Try.prog w = .ok (.tuple #[.agg #[a, b, c], x]) w := by
 obtain ⟨c0, c1, c2, z0, z1, z2⟩ := three h
 have j0 := hJ.cell 0
 simp at ht ht3 j0
 simp [results, Try.results12, go_sem, ht, ht3, c0, c1, c2, j0, Result.andThen]
def Q0 (w : World) (s : ByteArray) : World := ((w.alloc (.cells #[.string ⟨#[]⟩, .int .i64 0, .slice none 0 0] 24)).alloc (.cells #[.int .i64 0] 27)).alloc (.cells #[.string s] 58)
theorem Q0_I (w : World) (s : ByteArray) : Blk (Q0 w s) w.heap.size #[.string ⟨#[]⟩, .int .i64 0, .slice none 0 0] 24 := ((Blk.new w _ 24).alloc _).alloc _
theorem Q0_J (w : World) (s : ByteArray) : Blk (Q0 w s) (w.heap.size + 1) #[.int .i64 0] 27 := by
 have h := (Blk.new (w.alloc (.cells #[.string ⟨#[]⟩, .int .i64 0, .slice none 0 0] 24)) #[.int .i64 0] 27).alloc (.cells #[.string s] 58)
 have e : (w.alloc (.cells #[.string ⟨#[]⟩, .int .i64 0, .slice none 0 0] 24)).heap.size = w.heap.size + 1 := by simp
 rw [e] at h
 exact h
theorem Q0_B (w : World) (s : ByteArray) : Blk (Q0 w s) (w.heap.size + 1 + 1) #[.string s] 58 := by
 have h := Blk.new ((w.alloc (.cells #[.string ⟨#[]⟩, .int .i64 0, .slice none 0 0] 24)).alloc (.cells #[.int .i64 0] 27)) #[.string s] 58
 have e : ((w.alloc (.cells #[.string ⟨#[]⟩, .int .i64 0, .slice none 0 0] 24)).alloc (.cells #[.int .i64 0] 27)).heap.size = w.heap.size + 1 + 1 := by simp
 rw [e] at h
 exact h
theorem Q0_below (w : World) (s : ByteArray) : Below w.heap.size w (Q0 w s) := (((Below.refl _ w).alloc (Nat.le_refl _) _).alloc (by simp) _).alloc (by simp; omega) _
theorem Q0_size (w : World) (s : ByteArray) : (Q0 w s).heap.size = w.heap.size + 3 := by simp [Q0]
theorem manyA_length : ∀ (k : Nat) (acc : List Int) (s : ByteArray) (l : List Int) (r : ByteArray), manyA acc k s = .ok l r → l.length = acc.length + k
 | 0, acc, s, l, r, h => by cases h; rfl
 | k + 1, acc, s, l, r, h => by
  unfold manyA at h
  cases hg : greatP s with
  | bad x => rw [hg] at h; cases h
  | ok n r1 =>
   rw [hg] at h
   have := manyA_length k _ _ _ _ h
   rw [this, List.length_append]
   simp
   omega
theorem stepP_cuts {s : ByteArray} {x : S45} {r : ByteArray} (h : stepP s = .ok x r) : x.f2.length ≤ 255 := by
 unfold stepP at h
 cases h1 : smallP s with
 | bad e => rw [h1] at h; cases h
 | ok f r1 =>
  rw [h1] at h
  simp only at h
  by_cases hf : 1 < f
  ·rw [if_pos hf] at h; cases h
  rw [if_neg hf] at h
  cases h2 : textP greatP r1 with
  | bad e => rw [h2] at h; cases h
  | ok rec r2 =>
   rw [h2] at h
   simp only at h
   by_cases hg : (readG rec).2.2.2.2.2 = 0
   ·rw [if_pos hg] at h
    by_cases hf1 : f = 1
    ·rw [if_pos hf1] at h
     cases h3 : smallP r2 with
     | bad e => rw [h3] at h; cases h
     | ok n r3 =>
      rw [h3] at h
      simp only at h
      have hn := smallP_range h3
      cases h4 : manyA [] n.toNat r3 with
      | bad e => rw [h4] at h; cases h
      | ok l r4 =>
       rw [h4] at h
       cases h
       have := manyA_length _ _ _ _ _ h4
       simp at this
       simp only
       omega
    ·rw [if_neg hf1] at h
     cases h
     exact Nat.zero_le _
   ·rw [if_neg hg] at h; cases h
theorem stepsA_few : ∀ (k : Nat) (acc : List S45) (s : ByteArray) (l : List S45) (r : ByteArray), fewCuts acc → stepsA acc k s = .ok l r → fewCuts l
 | 0, acc, s, l, r, hf, h => by cases h; exact hf
 | k + 1, acc, s, l, r, hf, h => by
  unfold stepsA at h
  cases hg : stepP s with
  | bad x => rw [hg] at h; cases h
  | ok n r1 =>
   rw [hg] at h
   refine stepsA_few k _ _ _ _ ?_ h
   intro x hx
   rcases List.mem_append.1 hx with hx | hx
   ·exact hf x hx
   ·obtain rfl := List.mem_singleton.1 hx
    exact Nat.le_trans (stepP_cuts hg) (by decide)
theorem scriptP_few {s : ByteArray} {x : Scr} {r : ByteArray} (h : scriptP s = .ok x r) : fewCuts x.steps ∧ x.bot.size ≤ 255 := by
 unfold scriptP at h
 cases h1 : textP smallP s with
 | bad e => rw [h1] at h; cases h
 | ok bot r1 =>
  rw [h1] at h
  simp only at h
  cases h2 : greatP r1 with
  | bad e => rw [h2] at h; cases h
  | ok sec r2 =>
   rw [h2] at h
   simp only at h
   cases h3 : greatP r2 with
   | bad e => rw [h3] at h; cases h
   | ok n r3 =>
    rw [h3] at h
    simp only at h
    cases h4 : stepsA [] n.toNat r3 with
    | bad e => rw [h4] at h; cases h
    | ok l r4 =>
     rw [h4] at h
     simp only at h
     by_cases h5 : r4.size = 0
     ·rw [if_pos h5] at h
      cases h
      refine ⟨stepsA_few _ _ _ _ _ (fun x hx => by cases hx) h4, ?_⟩
      unfold textP at h1
      cases hs : smallP s with
      | bad e => rw [hs] at h1; cases h1
      | ok m r0 =>
       rw [hs] at h1
       simp only at h1
       have hm := smallP_range hs
       unfold takeP at h1
       by_cases hn : (r0.size : Int) < m
       ·rw [if_pos hn] at h1; cases h1
       ·rw [if_neg hn] at h1
        cases h1
        simp
        omega
     ·rw [if_neg h5] at h; cases h
def readS (s : ByteArray) : ByteArray × Int × List S45 × Int :=
 match scriptP s with
 | .bad x => (⟨#[]⟩, 0, [], x)
 | .ok x _ => if (checkS x.bot x.sectors x.steps).2 = 0 then (x.bot, x.sectors, x.steps, 0) else (⟨#[]⟩, 0, [], (checkS x.bot x.sectors x.steps).2)
def Reads (s : ByteArray) (w : World) (r : ByteArray × Int × List S45 × Int) : Prop :=
 Calls Try.prog 12 #[.string s] w fun e w' => ∃ v : Value, e = .returned (.tuple #[.agg #[.string r.1, .int .i64 r.2.1, v], .int .i64 r.2.2.2]) ∧ Kd.S k45 45 w' w.heap.size (fun _ => True) v r.2.2.1 ∧ Below w.heap.size w w'
set_option maxHeartbeats 4000000 in
theorem reads_bad (s : ByteArray) (w : World) (x : Int) (hg : scriptP s = .bad x) :
  Calls Try.prog 12 #[.string s] w fun e w' => ∃ v : Value, e = .returned (.tuple #[.agg #[.string ⟨#[]⟩, .int .i64 0, v], .int .i64 x]) ∧ Kd.S k45 45 w' w.heap.size (fun _ => True) v [] ∧ Below w.heap.size w w' := by
 have hmf : ∀ (fn : Fn) (first cap : Array Value) (w : World), (Instr.makeFunc fn first cap).run Try.prog w = .ok (.func fn first cap) w := fun _ _ _ _ => rfl
 have HG := Lib.hid hg
 clear hg
 go_enter_defers Try.func12, Try.ntmps12
 go_wp2_with fail
 refine (script_any (w.heap.size + 1 + 1) s _ (Q0_B w s) _ HG.out).mono ?_
 rintro e w1 ⟨rfl, hE⟩
 have HI := Lib.hid ((Q0_I w s).kept hE (by omega))
 have HJ := Lib.hid ((Q0_J w s).kept hE (by omega))
 have HE := Lib.hid ((Q0_below w s).trans (hE.below (by omega) (by rw [Q0_size]; omega)))
 clear hE
 go_wp2_with fail
 refine leaves_cons (f := 29) (args := #[.pointer (some ⟨w.heap.size, 0, none⟩), .pointer (some ⟨w.heap.size + 1, 0, none⟩)]) (by simp) (by simp [go_sem]) ?_
 refine (catchE w.heap.size (w.heap.size + 1) _ _ _ _ x [] _ HI.out HJ.out (by omega)).mono ?_
 rintro e u' w'' ⟨rfl, rfl, hI2, hJ2, hb⟩
 exact ⟨_, res12 hI2 hJ2 rfl rfl, _, rfl, Kd.S_nil _ _ _ _ _, HE.out.trans (hb.mono (by omega))⟩
set_option maxHeartbeats 4000000 in
theorem reads_ok (s : ByteArray) (w : World) (y : Scr) (r : ByteArray) (hg : scriptP s = .ok y r) (c : Int × Int) (hc : checkS y.bot y.sectors y.steps = c) (rr : ByteArray × Int × List S45 × Int) (hrr : (if c.2 = 0 then (y.bot, y.sectors, y.steps, 0) else (⟨#[]⟩, 0, [], c.2)) = rr) : Reads s w rr := by
 unfold Reads
 have HRR := Lib.hid hrr
 clear hrr
 have hmf : ∀ (fn : Fn) (first cap : Array Value) (w : World), (Instr.makeFunc fn first cap).run Try.prog w = .ok (.func fn first cap) w := fun _ _ _ _ => rfl
 have HG := Lib.hid hg
 have HC := Lib.hid hc
 have HF := Lib.hid (scriptP_few hg)
 clear hg hc
 obtain ⟨c1, c2⟩ := c
 go_enter_defers Try.func12, Try.ntmps12
 go_wp2_with fail
 refine (script_any (w.heap.size + 1 + 1) s _ (Q0_B w s) _ HG.out).mono ?_
 rintro e w1 ⟨v, rfl, hS, hE, hA⟩
 obtain ⟨A1, cp, rfl⟩ := Kd.S_slice hS
 have HI := Lib.hid ((Q0_I w s).kept hE (by omega))
 have HJ := Lib.hid ((Q0_J w s).kept hE (by omega))
 have HE := Lib.hid ((Q0_below w s).trans (hE.below (by omega) (by rw [Q0_size]; omega)))
 have HS := Lib.hid (Kd.S_lower hS (show w.heap.size ≤ (Q0 w s).heap.size by rw [Q0_size]; omega))
 clear hE hA hS
 obtain ⟨x0, x1, x2, p0, p1, p2⟩ := three HI.out
 go_wp2_with fail
 have hs1 : Below w.heap.size w (((w1.setCell ⟨w.heap.size, 0, none⟩ (.string y.bot)).setCell ⟨w.heap.size, 1, none⟩ (.int .i64 y.sectors)).setCell ⟨w.heap.size, 2, none⟩ (.slice A1 y.steps.length cp)) :=
  ((HE.out.setCell (p := ⟨w.heap.size, 0, none⟩) (Nat.le_refl _) _).setCell (p := ⟨w.heap.size, 1, none⟩) (Nat.le_refl _) _).setCell (p := ⟨w.heap.size, 2, none⟩) (Nat.le_refl _) _
 have HS1 := Lib.hid (rkset3 HS.out HI.out (.string y.bot) (.int .i64 y.sectors) (.slice A1 y.steps.length cp))
 replace HI := Lib.hid (set3 HI.out (.string y.bot) (.int .i64 y.sectors) (.slice A1 y.steps.length cp))
 have nij : w.heap.size + 1 ≠ w.heap.size := by omega
 replace HJ := Lib.hid (((HJ.out.setElse nij 0 (.string y.bot)).setElse nij 1 (.int .i64 y.sectors)).setElse nij 2 (.slice A1 y.steps.length cp))
 replace HE := Lib.hid hs1
 clear hs1 HS x0 x1 x2 p0 p1 p2
 obtain ⟨_, hle, hCr⟩ := Kd.S_reads' HS1.out
 refine (script_Check.calls 302 y.bot y.sectors A1 cp y.steps c1 c2 _ hCr hle ((check_val 302 y.bot y.sectors y.steps HF.out.1 (Nat.le_trans HF.out.2 (by decide)) (Nat.le_refl _)).trans (congrArg some HC.out))).mono ?_
 rintro e w2 ⟨rfl, hb2⟩
 replace HS1 := Lib.hid (Kd.S_below HS1.out hb2)
 replace HI := Lib.hid (HI.out.below hb2 HI.out.lt)
 replace HJ := Lib.hid (HJ.out.below hb2 HJ.out.lt)
 replace HE := Lib.hid (HE.out.trans (hb2.mono HE.out.size))
 clear hb2 hle hCr
 obtain ⟨x0, x1, x2, p0, p1, p2⟩ := three HI.out
 have v0 := HJ.out.cell 0
 have v1 := HJ.out.frozen 0
 simp at v0
 by_cases h0 : c2 = 0
 ·subst h0
  obtain rfl : (y.bot, y.sectors, y.steps, (0 : Int)) = rr := (if_pos rfl).symm.trans HRR.out
  go_wp2_with fail
  have hIF := (set3 HI.out (.string y.bot) (.int .i64 y.sectors) (.slice A1 y.steps.length cp)).setElse nij.symm 0 (.int .i64 0)
  have hJF := (((HJ.out.setElse nij 0 (.string y.bot)).setElse nij 1 (.int .i64 y.sectors)).setElse nij 2 (.slice A1 y.steps.length cp)).set 0 (.int .i64 0)
  have hWF := (((HE.out.setCell (p := ⟨w.heap.size, 0, none⟩) (Nat.le_refl _) (.string y.bot)).setCell (p := ⟨w.heap.size, 1, none⟩) (Nat.le_refl _) (.int .i64 y.sectors)).setCell (p := ⟨w.heap.size, 2, none⟩) (Nat.le_refl _) (.slice A1 y.steps.length cp)).setCell (p := ⟨w.heap.size + 1, 0, none⟩) (Nat.le_succ _) (.int .i64 0)
  have hSF := Kd.S_set (rkset3 HS1.out HI.out (.string y.bot) (.int .i64 y.sectors) (.slice A1 y.steps.length cp)) (((HJ.out.setElse nij 0 (.string y.bot)).setElse nij 1 (.int .i64 y.sectors)).setElse nij 2 (.slice A1 y.steps.length cp)) (by decide) 0 (.int .i64 0)
  refine leaves_cons (f := 29) (args := #[.pointer (some ⟨w.heap.size, 0, none⟩), .pointer (some ⟨w.heap.size + 1, 0, none⟩)]) (by simp) (by simp [go_sem]) ?_
  refine (idleE ⟨w.heap.size, 0, none⟩ ⟨w.heap.size + 1, 0, none⟩ _).mono ?_
  rintro e u' w'' ⟨rfl, rfl, rfl⟩
  exact ⟨_, res12 hIF hJF rfl rfl, _, rfl, hSF, hWF⟩
 ·have hcb : (c2 != 0) = true := by simpa using h0
  obtain rfl : ((⟨#[]⟩ : ByteArray), (0 : Int), ([] : List S45), c2) = rr := (if_neg h0).symm.trans HRR.out
  clear h0
  go_wp2_with fail
  have hIF := (set3 HI.out (.string ⟨#[]⟩) (.int .i64 0) (.slice none 0 0)).setElse nij.symm 0 (.int .i64 c2)
  have hJF := (((HJ.out.setElse nij 0 (.string ⟨#[]⟩)).setElse nij 1 (.int .i64 0)).setElse nij 2 (.slice none 0 0)).set 0 (.int .i64 c2)
  have hWF := (((HE.out.setCell (p := ⟨w.heap.size, 0, none⟩) (Nat.le_refl _) (.string ⟨#[]⟩)).setCell (p := ⟨w.heap.size, 1, none⟩) (Nat.le_refl _) (.int .i64 0)).setCell (p := ⟨w.heap.size, 2, none⟩) (Nat.le_refl _) (.slice none 0 0)).setCell (p := ⟨w.heap.size + 1, 0, none⟩) (Nat.le_succ _) (.int .i64 c2)
  refine leaves_cons (f := 29) (args := #[.pointer (some ⟨w.heap.size, 0, none⟩), .pointer (some ⟨w.heap.size + 1, 0, none⟩)]) (by simp) (by simp [go_sem]) ?_
  refine (idleE ⟨w.heap.size, 0, none⟩ ⟨w.heap.size + 1, 0, none⟩ _).mono ?_
  rintro e u' w'' ⟨rfl, rfl, rfl⟩
  exact ⟨_, res12 hIF hJF rfl rfl, _, rfl, Kd.S_nil _ _ _ _ _, hWF⟩
def script_Read.f (s : ByteArray) : Option (ByteArray × Int × List S45 × Int) := some (readS s)
theorem script_Read.calls (s : ByteArray) (r1 : ByteArray) (r2 : Int) (r3 : List S45) (r4 : Int) (w : World) (h : script_Read.f s = some (r1, r2, r3, r4)) :
  Calls Try.prog 12 #[.string s] w fun e w' => ∃ v : Value, e = .returned (.tuple #[.agg #[.string r1, .int .i64 r2, v], .int .i64 r4]) ∧ Kd.S k45 45 w' w.heap.size (fun _ => True) v r3 ∧ Below w.heap.size w w' := by
 have h2 : readS s = (r1, r2, r3, r4) := Option.some.inj h
 unfold readS at h2
 cases hg : scriptP s with
 | bad x =>
  rw [hg] at h2
  simp only [Prod.mk.injEq] at h2
  obtain ⟨rfl, rfl, rfl, rfl⟩ := h2
  exact reads_bad s w x hg
 | ok y r =>
  rw [hg] at h2
  simp only at h2
  exact reads_ok s w y r hg _ rfl _ h2
end Go.Proofs.YtfgibjkgiolonaaS
