/- Plain lemmas: a record's bytes as numbers, and back. -/
import Derived.Test.YtfgbimcjcplegaaDoorGm
import Derived.Test.YtfgbimcjcplegaaDoorX1
set_option linter.unusedVariables false
set_option linter.unusedSimpArgs false
namespace Go.Proofs.YtfgbimcjcplegaaDoorQ
open Go.RowKit Go.Proofs.YtfgbimcjcplegaaDoorW.PrintWords Go.Proofs.YtfgbimcjcplegaaDoorX Go.Proofs.YtfgbimcjcplegaaDoorG
def isB (l : List Int) : Prop := ∀ x ∈ l, 0 ≤ x ∧ x ≤ 255
theorem isB_bytesOf (s : ByteArray) : isB (bytesOf s) := by
  intro x hx
  unfold bytesOf at hx
  obtain ⟨b, _, rfl⟩ := List.mem_map.1 hx
  have := b.toNat_lt
  omega
theorem str_bytesOf (s : ByteArray) : strOfNums (bytesOf s) = s := by
  have := strOfNums_map s id
  unfold bytesOf
  simp only [id] at this
  rw [this]
  apply bytes_ext
  simp
theorem bytesOf_str {l : List Int} (h : isB l) : bytesOf (strOfNums l) = l := by
  unfold bytesOf strOfNums
  simp only [List.map_map]
  rw [List.map_congr_left (g := id) ?_]
  · simp
  · intro x hx
    have := h x hx
    simp
    omega
theorem str_size (l : List Int) : (strOfNums l).size = l.length := by
  show (strOfNums l).data.size = _
  simp [strOfNums]
theorem str_bt {l : List Int} (h : isB l) (i : Nat) (hi : i < l.length) : bt (strOfNums l) i = l.getD i 0 := by
  have h2 := rd_bytesOf (strOfNums l) i
  rw [bytesOf_str h] at h2
  rw [← h2]
  rfl
theorem str_extract (l : List Int) (i j : Nat) : (strOfNums l).extract i j = strOfNums ((l.take j).drop i) := by
  apply bytes_ext
  simp [strOfNums, List.map_drop, List.map_take]
  rw [List.drop_take]
theorem isB_eight (n : Int) : isB (eightL n) := by
  intro x hx
  unfold eightL at hx
  simp only [List.mem_cons, List.not_mem_nil, or_false] at hx
  rcases hx with rfl | rfl | rfl | rfl | rfl | rfl | rfl | rfl <;> omega
theorem isB_app {a b : List Int} (ha : isB a) (hb : isB b) : isB (a ++ b) := fun x hx => by
  rcases List.mem_append.1 hx with h | h
  · exact ha x h
  · exact hb x h
theorem isB_one {x : Int} (h1 : 0 ≤ x) (h2 : x ≤ 255) : isB [x] := fun y hy => by
  rw [List.mem_singleton] at hy
  omega
theorem isB_cons {x : Int} {l : List Int} (h1 : 0 ≤ x) (h2 : x ≤ 255) (h : isB l) : isB (x :: l) := fun y hy => by
  rcases List.mem_cons.1 hy with rfl | h'
  · exact ⟨h1, h2⟩
  · exact h y h'
/-- Eight bytes' number. -/
theorem numP_8 (t : ByteArray) (b0 b1 b2 b3 b4 b5 b6 b7 : Int) (h : isB [b0, b1, b2, b3, b4, b5, b6, b7]) (ht : t = strOfNums [b0, b1, b2, b3, b4, b5, b6, b7]) :
    numP t 8 = ((((((b0 * 256 + b1) * 256 + b2) * 256 + b3) * 256 + b4) * 256 + b5) * 256 + b6) * 256 + b7 := by
  subst ht
  have e0 := str_bt h 0 (by simp)
  have e1 := str_bt h 1 (by simp)
  have e2 := str_bt h 2 (by simp)
  have e3 := str_bt h 3 (by simp)
  have e4 := str_bt h 4 (by simp)
  have e5 := str_bt h 5 (by simp)
  have e6 := str_bt h 6 (by simp)
  have e7 := str_bt h 7 (by simp)
  generalize strOfNums [b0, b1, b2, b3, b4, b5, b6, b7] = t at *
  simp only [numP, e0, e1, e2, e3, e4, e5, e6, e7]
  simp
theorem step256 (n d : Int) (h : d = 256 * (d / 256)) (hd : 0 < d) : n / d * 256 + n / (d / 256) % 256 = n / (d / 256) := by
  have h2 : n / d = n / (d / 256) / 256 := by
    rw [Int.ediv_ediv_of_nonneg (by omega), Int.mul_comm, ← h]
  rw [h2]
  omega
theorem num_eight (n : Int) (h0 : 0 ≤ n) (h1 : n < 18446744073709551616) : numP (strOfNums (eightL n)) 8 = n := by
  unfold eightL
  rw [numP_8 _ _ _ _ _ _ _ _ _ (isB_eight n) rfl]
  have s0 : n / 72057594037927936 % 256 = n / 72057594037927936 := by omega
  have s1 := step256 n 72057594037927936 (by decide) (by decide)
  have s2 := step256 n 281474976710656 (by decide) (by decide)
  have s3 := step256 n 1099511627776 (by decide) (by decide)
  have s4 := step256 n 4294967296 (by decide) (by decide)
  have s5 := step256 n 16777216 (by decide) (by decide)
  have s6 := step256 n 65536 (by decide) (by decide)
  have s7 : n / 256 * 256 + n % 256 = n := by omega
  simp only [show (72057594037927936 : Int) / 256 = 281474976710656 from rfl, show (281474976710656 : Int) / 256 = 1099511627776 from rfl, show (1099511627776 : Int) / 256 = 4294967296 from rfl, show (4294967296 : Int) / 256 = 16777216 from rfl, show (16777216 : Int) / 256 = 65536 from rfl, show (65536 : Int) / 256 = 256 from rfl] at s1 s2 s3 s4 s5 s6
  rw [s0, s1, s2, s3, s4, s5, s6, s7]
theorem peel (x b : Int) (h0 : 0 ≤ b) (h1 : b ≤ 255) : (x * 256 + b) % 256 = b ∧ (x * 256 + b) / 256 = x := by omega
theorem eight_num (b0 b1 b2 b3 b4 b5 b6 b7 : Int) (h : isB [b0, b1, b2, b3, b4, b5, b6, b7]) :
    eightL (((((((b0 * 256 + b1) * 256 + b2) * 256 + b3) * 256 + b4) * 256 + b5) * 256 + b6) * 256 + b7) = [b0, b1, b2, b3, b4, b5, b6, b7] := by
  have m (x : Int) (hx : x ∈ [b0, b1, b2, b3, b4, b5, b6, b7]) := h x hx
  have d (n d : Int) (hd : 0 ≤ d) : n / (256 * d) = n / 256 / d := (Int.ediv_ediv_of_nonneg (by decide)).symm
  have p7 := peel ((((((b0 * 256 + b1) * 256 + b2) * 256 + b3) * 256 + b4) * 256 + b5) * 256 + b6) b7 (m b7 (by simp)).1 (m b7 (by simp)).2
  have p6 := peel (((((b0 * 256 + b1) * 256 + b2) * 256 + b3) * 256 + b4) * 256 + b5) b6 (m b6 (by simp)).1 (m b6 (by simp)).2
  have p5 := peel ((((b0 * 256 + b1) * 256 + b2) * 256 + b3) * 256 + b4) b5 (m b5 (by simp)).1 (m b5 (by simp)).2
  have p4 := peel (((b0 * 256 + b1) * 256 + b2) * 256 + b3) b4 (m b4 (by simp)).1 (m b4 (by simp)).2
  have p3 := peel ((b0 * 256 + b1) * 256 + b2) b3 (m b3 (by simp)).1 (m b3 (by simp)).2
  have p2 := peel (b0 * 256 + b1) b2 (m b2 (by simp)).1 (m b2 (by simp)).2
  have p1 := peel b0 b1 (m b1 (by simp)).1 (m b1 (by simp)).2
  have p0 : b0 % 256 = b0 := by have := m b0 (by simp); omega
  generalize hx1 : b0 * 256 + b1 = x1 at *
  generalize hx2 : x1 * 256 + b2 = x2 at *
  generalize hx3 : x2 * 256 + b3 = x3 at *
  generalize hx4 : x3 * 256 + b4 = x4 at *
  generalize hx5 : x4 * 256 + b5 = x5 at *
  generalize hx6 : x5 * 256 + b6 = x6 at *
  generalize hx7 : x6 * 256 + b7 = x7 at *
  have q1 : x7 / 65536 = x5 := by rw [show (65536 : Int) = 256 * 256 from rfl, d _ _ (by decide), p7.2, p6.2]
  have q2 : x7 / 16777216 = x4 := by rw [show (16777216 : Int) = 256 * 65536 from rfl, d _ _ (by decide), p7.2, show (65536 : Int) = 256 * 256 from rfl, d _ _ (by decide), p6.2, p5.2]
  have q3 : x7 / 4294967296 = x3 := by rw [show (4294967296 : Int) = 65536 * 65536 from rfl, ← Int.ediv_ediv_of_nonneg (by decide), q1, show (65536 : Int) = 256 * 256 from rfl, d _ _ (by decide), p5.2, p4.2]
  have q4 : x7 / 1099511627776 = x2 := by rw [show (1099511627776 : Int) = 4294967296 * 256 from rfl, ← Int.ediv_ediv_of_nonneg (by decide), q3, p3.2]
  have q5 : x7 / 281474976710656 = x1 := by rw [show (281474976710656 : Int) = 1099511627776 * 256 from rfl, ← Int.ediv_ediv_of_nonneg (by decide), q4, p2.2]
  have q6 : x7 / 72057594037927936 = b0 := by rw [show (72057594037927936 : Int) = 281474976710656 * 256 from rfl, ← Int.ediv_ediv_of_nonneg (by decide), q5, p1.2]
  unfold eightL
  rw [q1, q2, q3, q4, q5, q6, p7.1, p7.2, p6.1, p5.1, p4.1, p3.1, p2.1, p1.1, p0]
end Go.Proofs.YtfgbimcjcplegaaDoorQ
