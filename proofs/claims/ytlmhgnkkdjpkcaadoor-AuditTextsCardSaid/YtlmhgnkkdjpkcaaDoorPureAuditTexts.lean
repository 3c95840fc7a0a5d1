/- The law AuditTexts: the text of notes is the lines of all; of a front and of the rest, too. -/
import Derived.Test.YtlmhgnkkdjpkcaaDoorP1
import Derived.Test.YtlmhgnkkdjpkcaaDoorPAx21
set_option linter.unusedVariables false
set_option linter.unusedSimpArgs false
namespace Go.Proofs.YtlmhgnkkdjpkcaaDoorG
open Go.RowKit Go.Proofs.YtlmhgnkkdjpkcaaDoorW.PrintWords Go.Proofs.YtlmhgnkkdjpkcaaDoorW.PrintLast Go.Proofs.YtlmhgnkkdjpkcaaDoorW.PrintMore Go.Proofs.YtlmhgnkkdjpkcaaDoor.PA
set_option maxRecDepth 100000 in
theorem lives_now : outlawlaw23_lives.f 40 = some true := by kernel_rfl
theorem lives_ev : Ev (fun k => outlawlaw23_lives.f k) true := Ev.of outlawlaw23_lives.mono lives_now
/-- The numbers of a note are of their kind's size. -/
def FitN (n : S30) : Prop := (-9223372036854775808 ≤ n.f1 ∧ n.f1 ≤ 9223372036854775807) ∧ (-9223372036854775808 ≤ n.f3 ∧ n.f3 ≤ 9223372036854775807)
theorem textOk_of {n : S30} (h : lightB n = true) (hf : FitN n) : TextOk n := by
  unfold lightB at h
  simp only [Bool.and_eq_true, decide_eq_true_eq] at h
  exact ⟨hf, by omega⟩
theorem line_is {n : S30} (h : TextOk n) : audit_Line.f n.f0 n.f1 n.f2.f0 n.f2.f1 n.f2.f2 n.f2.f3 n.f2.f4 n.f3 n.f4 = some (noteS n) := by
  unfold audit_Line.f
  rw [if_pos ⟨h.1, Nat.le_trans h.2 (by decide)⟩]; rfl
theorem text_is {l : List S30} (h : ∀ n ∈ l, TextOk n) (hl : l.length ≤ 1000) : audit_Text.f l = some (textS l) := by
  unfold audit_Text.f; rw [if_pos ⟨h, hl⟩]
theorem pick_is (n : Int) (m : Nat) (hm : m ≤ 1000000) (h0 : -9223372036854775808 ≤ n) (h1 : n ≤ 9223372036854775807) : ∃ p : Nat, p ≤ m ∧ outlawkit_Pick.f n (wrap64 ((m : Int) + 1)) = some (p : Int) := by
  have hw : wrap64 ((m : Int) + 1) = (m : Int) + 1 := by unfold wrap64; omega
  unfold outlawkit_Pick.f
  rw [hw, if_neg (by omega), if_neg (by omega)]
  have hlt := Int.tmod_lt_of_pos n (b := (m : Int) + 1) (by omega)
  have hgt : -((m : Int) + 1) < Int.tmod n ((m : Int) + 1) := by
    have := Int.lt_tmod_of_pos n (b := (m : Int) + 1) (by omega); omega
  generalize Int.tmod n ((m : Int) + 1) = t at hlt hgt ⊢
  by_cases ht : t < 0
  · rw [if_pos ht]
    refine ⟨(t + ((m : Int) + 1)).toNat, by omega, ?_⟩
    have : wrap64 (t + ((m : Int) + 1)) = t + ((m : Int) + 1) := by unfold wrap64; omega
    rw [this]; congr 1; omega
  · rw [if_neg ht]
    exact ⟨t.toNat, by omega, by congr 1; omega⟩
theorem texts_go (l : List S30) (p : Nat) (hp : p ≤ l.length) (hl : l.length ≤ 60) (hok : ∀ n ∈ l, TextOk n) : ∀ d i : Nat, l.length - i = d → i ≤ l.length →
    Ev (fun k => outlawlaw23_AuditTexts.l0 k l (p : Int) (textS (l.take i)) (i : Int)) true := by
  have hs := fun k => textS_take_size l hok (by omega) k
  intro d
  induction d with
  | zero =>
    intro i hd hi
    obtain rfl : i = l.length := by omega
    refine Ev.step (f := fun _ => some _) (fun k => ?_) (Ev.now _)
    have h1 := textS_take_size (l.drop p) (fun n hn => hok n (List.mem_of_mem_drop hn)) (by rw [List.length_drop]; omega) (l.drop p).length
    have h2 := hs p
    rw [List.take_length] at h1
    rw [outlawlaw23_AuditTexts.l0, if_neg (by omega), List.take_length, text_is hok (by omega), Option.bind_some, if_pos rfl, if_pos (by omega), if_pos (by omega), Int.toNat_natCast,
      text_is (l := l.take p) (fun n hn => hok n (List.mem_of_mem_take hn)) (by rw [List.length_take]; omega), Option.bind_some,
      text_is (l := l.drop p) (fun n hn => hok n (List.mem_of_mem_drop hn)) (by rw [List.length_drop]; omega), Option.bind_some, if_pos (by omega), ← textS_append, List.take_append_drop, beq_self_eq_true]
  | succ d ih =>
    intro i hd hi
    have hlt : i < l.length := by omega
    have hw := wrap_nat hlt (by omega)
    have hn : TextOk l[i] := hok _ (List.getElem_mem hlt)
    have hz := noteS_size hn
    have h1 := hs i
    have ht := textS_take l (i : Int) (by omega) (by omega)
    rw [rd_nat l hlt, show ((i : Int) + 1).toNat = i + 1 by omega, Int.toNat_natCast] at ht
    refine Ev.step (f := fun k => outlawlaw23_AuditTexts.l0 k l (p : Int) (textS (l.take (i + 1))) ((i + 1 : Nat) : Int)) (fun k => ?_) (ih (i + 1) (by omega) (by omega))
    rw [outlawlaw23_AuditTexts.l0, if_pos (by omega), if_pos (by omega), rd_nat l hlt, line_is hn, Option.bind_some, if_pos (by omega), if_pos (by rw [ByteArray.size_append]; omega), hw, ht, ByteArray.append_assoc]
theorem auditTexts (l : List S30) (cut : Int) (hl : l.length ≤ 9223372036854775807) (hf : ∀ n ∈ l, FitN n) (h0 : -9223372036854775808 ≤ cut) (h1 : cut ≤ 9223372036854775807) : Ev (fun k => outlawlaw23_AuditTexts.f k l cut) true := by
  refine Ev.bind (f := fun k t => if t = true then ((outlawkit_LightNotes.f k l 60).bind fun t288 => (if t288 = true then ((outlawkit_Pick.f cut (wrap64 ((l.length : Int) + 1))).bind fun t289 => (outlawlaw23_AuditTexts.l0 k l t289 (⟨#[]⟩ : ByteArray) 0)) else (some true))) else (some false)) lives_ev ?_
  refine Ev.congr (f := fun k => (outlawkit_LightNotes.f k l 60).bind fun t288 => (if t288 = true then ((outlawkit_Pick.f cut (wrap64 ((l.length : Int) + 1))).bind fun t289 => (outlawlaw23_AuditTexts.l0 k l t289 (⟨#[]⟩ : ByteArray) 0)) else (some true))) (fun k => by rw [if_pos rfl]) ?_
  refine Ev.bind (f := fun k t288 => if t288 = true then ((outlawkit_Pick.f cut (wrap64 ((l.length : Int) + 1))).bind fun t289 => (outlawlaw23_AuditTexts.l0 k l t289 (⟨#[]⟩ : ByteArray) 0)) else (some true)) (light_ev l 60 hl) ?_
  by_cases hq : (l.all lightB && decide ((l.length : Int) ≤ 60)) = true
  · have hq' := hq
    simp only [Bool.and_eq_true, decide_eq_true_eq, List.all_eq_true] at hq'
    obtain ⟨p, hp, hpick⟩ := pick_is cut l.length (by omega) h0 h1
    refine Ev.congr (f := fun k => outlawlaw23_AuditTexts.l0 k l (p : Int) (textS (l.take 0)) ((0 : Nat) : Int)) (fun k => ?_) (texts_go l p hp (by omega) (fun n hn => textOk_of (hq'.1 n hn) (hf n hn)) _ 0 rfl (Nat.zero_le _))
    rw [if_pos hq, hpick, Option.bind_some]; rfl
  · refine Ev.congr (f := fun _ => some true) (fun k => ?_) (Ev.now _)
    rw [if_neg hq]
end Go.Proofs.YtlmhgnkkdjpkcaaDoorG
