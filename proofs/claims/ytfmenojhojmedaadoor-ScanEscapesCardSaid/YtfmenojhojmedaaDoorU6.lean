/- The laws' helpers: Quote, Valid, the chapter's example; what a loop over a literal's bytes tells. -/
import Derived.Test.YtfmenojhojmedaaDoorU5
import Derived.Test.YtfmenojhojmedaaDoorPAx1
set_option linter.unusedVariables false
set_option linter.unusedSimpArgs false
namespace Go.Proofs.YtfmenojhojmedaaDoorV
open Go.RowKit Go.Lib Go.Proofs.YtfmenojhojmedaaDoorU Go.Proofs.YtfmenojhojmedaaDoorG Go.Proofs.YtfmenojhojmedaaDoorX Go.Proofs.YtfmenojhojmedaaDoor.PR Go.Proofs.YtfmenojhojmedaaDoor.PA
open Go.Proofs.YtfmenojhojmedaaDoorW.PrintWords hiding encs encs_append
/-- A string of bytes. -/
def mk (l : List UInt8) : ByteArray := ⟨l.toArray⟩
theorem mk_list (l : List UInt8) : (mk l).data.toList = l := by simp [mk]
theorem mk_tl (l : List UInt8) : (mk l).toList = l := by rw [toList_data, mk_list]
theorem mk_size (l : List UInt8) : (mk l).size = l.length := by rw [← size_list, mk_list]
theorem list_app (a b : ByteArray) : (a ++ b).data.toList = a.data.toList ++ b.data.toList := by simp
def quotedS (rs : List Nat) : ByteArray := mk (34 :: (qs rs ++ [34]))
theorem quote_val {s : ByteArray} {rs : List Nat} (hs : s.size ≤ 1000000) (h : s.data.toList = encs rs) (hrs : ∀ r ∈ rs, scalar r) : scan_Quote.f s = some (quotedS rs, 0) := by
  have hv : validD s.data.toList = true := by rw [h]; exact validD_encs rs hrs
  unfold scan_Quote.f
  rw [if_pos hs, hv, if_pos rfl, qAll_is h hrs]
  rfl
theorem quote_no {s : ByteArray} (hs : s.size ≤ 1000000) (hv : validD s.data.toList = false) : scan_Quote.f s = some (⟨#[]⟩, 6) := by
  unfold scan_Quote.f
  rw [if_pos hs, hv, if_neg Bool.false_ne_true]
theorem valid_val {s : ByteArray} (hs : s.size ≤ 1000000) : scan_Valid.f s = some (validD s.data.toList) := by
  unfold scan_Valid.f utf8_ValidString.f
  rw [if_pos (by omega)]
  rfl
theorem qs_len : ∀ (rs : List Nat), (∀ r ∈ rs, scalar r) → (qs rs).length ≤ 6 * (encs rs).length
  | [], _ => by simp [qs]
  | r :: rs, h => by
    have h1 := qRune_len r
    have h2 := enc_len (h r (List.mem_cons_self ..))
    have h3 := qs_len rs fun q hq => h q (List.mem_cons_of_mem _ hq)
    rw [qs_cons, encs_cons, List.length_append, List.length_append]
    omega
theorem quoted_size {rs : List Nat} (h : ∀ r ∈ rs, scalar r) : (quotedS rs).size ≤ 6 * (encs rs).length + 2 := by
  have := qs_len rs h
  unfold quotedS
  rw [mk_size]
  simp
  omega
theorem unq_quoted {rs : List Nat} (h : ∀ r ∈ rs, scalar r) (t : ByteArray) (hs : (quotedS rs ++ t).size ≤ 1000000) : Ev (fun k => scan_Unquote.f k (quotedS rs ++ t)) (mk (encs rs), ((quotedS rs).size : Int), 0) := by
  have hv := unq_val hs
  have e : (quotedS rs ++ t).data.toList = (34 :: (qs rs ++ [34])) ++ t.data.toList := by rw [list_app]; unfold quotedS; rw [mk_list]
  rw [e, lit_q rs h] at hv
  have hn : (quotedS rs ++ t).size - t.data.toList.length = (quotedS rs).size := by rw [size_list, ByteArray.size_append]; omega
  have hu : UnqAns (quotedS rs ++ t) (.ok (encs rs, t.data.toList)) = (mk (encs rs), ((quotedS rs).size : Int), 0) := by
    show (_, (((quotedS rs ++ t).size - t.data.toList.length : Nat) : Int), _) = _
    rw [hn]
    rfl
  rw [hu] at hv
  exact hv
theorem lives_val : outlawlaw01_lives.f = some true := by kernel_rfl
end Go.Proofs.YtfmenojhojmedaaDoorV
