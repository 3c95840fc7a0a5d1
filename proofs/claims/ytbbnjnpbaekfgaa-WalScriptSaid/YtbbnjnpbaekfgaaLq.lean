import Derived.Test.YtbbnjnpbaekfgaaNq
import Derived.Deep.RegionHeldLaw
import Derived.WalkSmall
import Derived.WalkSpells
import Derived.Lib.SliceRun
/- How a log lies in memory; the contracts of its small methods. -/
set_option linter.unusedVariables false
set_option linter.unusedSimpArgs false
namespace Go.Proofs.YtbbnjnpbaekfgaaM
open Go.RowKit
/-- A world behind []byte(s). -/
def BW (w : World) (l : List UInt8) : World := w.drew.alloc (.cells (bytesRow (bs l) (grownCap w l.length 0 5)) 5 ((bytesRow (bs l) (grownCap w l.length 0 5)).size, (bytesRow (bs l) (grownCap w l.length 0 5)).size + 1))
def BytesVia (v : Value) : Sem Next := do pure (.value (← convert 9 37 v))
theorem exec_bytes (ρ : Operand → Value) (dst : Option Tmp) (x : Operand) (ty : TypeId) (pos : String) (after : Array Edge) (guard : Option (Nat × Bool)) : execOp ρ { dst := dst, op := .convert 9 37 x, type := ty, pos := pos, after := after, guard := guard } = BytesVia (ρ x) := rfl
theorem via_bytes (w : World) (l : List UInt8) : (BytesVia (.string (bs l))).run Try.prog w = .ok (.value (.slice (some ⟨w.heap.size, 0, none⟩) l.length (grownCap w l.length 0 5))) (BW w l) := by
  have hr := run_bytes_of_string (P := Try.prog) w 9 37 5 (bs l) Try.underlying9 Try.underlying37 Try.underlying5
  rw [bs_size] at hr
  unfold BytesVia
  rw [Sem.run_bind, hr]
  rfl
theorem bw_below (w : World) (l : List UInt8) : Below w.heap.size w (BW w l) := (Below.refl _ w).drew.alloc (Nat.le_refl _) _
theorem bw_keep {n : Nat} {a w : World} (h : Below n a w) (hn : n ≤ a.heap.size) (l : List UInt8) : Below n a (BW w l) := h.trans ((bw_below w l).mono (Nat.le_trans hn h.size))
theorem bw_bytes (w : World) (l : List UInt8) (c : Nat) : BytesAt (BW w l) (.slice (some ⟨w.heap.size, 0, none⟩) l.length c) l :=
  ⟨_, c, rfl, fun _ => ⟨_, rfl, fun j u hu => by
    rw [addr_add, Nat.zero_add]
    exact (World.cell?_alloc_mark w.drew _ 5 _ j).trans (bytesRow_bs l _ j u hu)⟩⟩
theorem BytesAt.below {w w' : World} {v : Value} {l : List UInt8} (h : BytesAt w v l) (hb : Below w.heap.size w w') : BytesAt w' v l := by
  obtain ⟨a, c, e, hh⟩ := h
  refine ⟨a, c, e, fun h0 => ?_⟩
  obtain ⟨ad, e2, hc⟩ := hh h0
  exact ⟨ad, e2, fun j u hu => by rw [hb.cell (p := ad.add j) (World.block_lt_of_cell? w _ (hc j u hu))]; exact hc j u hu⟩
theorem not_own_type {w : World} {B p g n : Nat} {v : Value} {D : List UInt8} {P : List (Nat × List UInt8)} (h : DiskAt w B p g n v D P) {k : Nat} {c : Array Value} {t : TypeId} {fr : Nat × Nat} (hk : w.heap[k]? = some (.cells c t fr)) (h1 : t ≠ 79) (h2 : t ≠ 92) (h3 : t ≠ 94) : ¬ Own p g v k := by
  rintro (rfl | rfl | e)
  · have := h.blk.symm.trans hk
    cases this
    exact h1 rfl
  · have := h.dur.symm.trans hk
    cases this
    exact h2 rfl
  · rcases h.pend.2 with ⟨rfl, _⟩ | ⟨q, cap, cur, rfl, _, hq, _⟩
    · cases e
    · cases e
      have := hq.symm.trans hk
      cases this
      exact h3 rfl
theorem own_far {w : World} {B p g n : Nat} {v : Value} {D : List UInt8} {P : List (Nat × List UInt8)} (h : DiskAt w B p g n v D P) {B' e size m : Nat} {u : Value} {xs : List Value} (ho : w.ownsRow B' e size u m xs) (h1 : e ≠ 79) (h2 : e ≠ 92) (h3 : e ≠ 94) : ∀ k, u.ownBlock = some k → ¬ Own p g v k := by
  intro k hk
  rcases ho.2 with ⟨rfl, _⟩ | ⟨q, cap, cur, rfl, _, hq, _⟩
  · cases hk
  · cases hk
    exact not_own_type h hq h1 h2 h3
theorem row_ne {w : World} {B e size n p : Nat} {v : Value} {xs : List Value} {c : List Value} {t : TypeId} (h : w.ownsRow B e size v n xs) (hb : Blk w p c t) (hne : e ≠ t) : v.ownBlock ≠ some p := by
  intro hk
  rcases h.2 with ⟨rfl, _⟩ | ⟨g, cap, cur, rfl, _, hg, _⟩
  · exact absurd hk (by simp [Value.ownBlock])
  · obtain rfl : g = p := by simpa [Value.ownBlock] using hk
    unfold Blk at hb
    rw [hg] at hb
    simp only [Option.some.injEq, Obj.cells.injEq] at hb
    exact hne hb.2.1
theorem rows_ne {w : World} {B e size n B' e' size' n' : Nat} {v u : Value} {xs ys : List Value} (h : w.ownsRow B e size v n xs) (k : w.ownsRow B' e' size' u n' ys) (hne : e ≠ e') : ∀ q, v.ownBlock = some q → ¬ u.ownBlock = some q := by
  intro q hq hu
  rcases k.2 with ⟨rfl, _⟩ | ⟨g, cap, cur, rfl, _, hg, _⟩
  · exact absurd hu (by simp [Value.ownBlock])
  · obtain rfl : g = q := by simpa [Value.ownBlock] using hu
    exact row_ne (c := cur.toList) h (by unfold Blk; rw [hg]) hne hq
theorem Own_congr {p g : Nat} {v v' : Value} (h : v'.ownBlock = v.ownBlock) (k : Nat) : Own p g v' k ↔ Own p g v k := by
  unfold Own
  rw [h]
/-- A log at block q, on a disk at block p. -/
structure LogAt (w : World) (B q p g n : Nat) (v vr : Value) (D : List UInt8) (P : List (Nat × List UInt8)) (R : List (List UInt8)) (s e : Nat) : Prop where
  d : DiskAt w B p g n v D P
  l : Blk w q [.pointer (some ⟨p, 0, none⟩), vr, .int .i64 (s : Int), .int .i64 (e : Int)] 81
  r : w.ownsRow B 9 1 vr R.length (strs R)
  bq : B ≤ q
  he : e ≤ n
  hs : s ≤ R.length
  few : R.length ≤ 100000
/-- The blocks that are a log's own, and its disk's. -/
def LOwn (q p g : Nat) (v vr : Value) (k : Nat) : Prop := Own p g v k ∨ k = q ∨ vr.ownBlock = some k
theorem LogAt.lt {w : World} {B q p g n : Nat} {v vr : Value} {D : List UInt8} {P : List (Nat × List UInt8)} {R : List (List UInt8)} {s e : Nat} (h : LogAt w B q p g n v vr D P R s e) : ∀ k, LOwn q p g v vr k → B ≤ k ∧ k < w.heap.size := by
  rintro k (hk | rfl | hk)
  · exact h.d.lt k hk
  · exact ⟨h.bq, h.l.lt⟩
  · exact h.r.lt k hk
theorem LogAt.base {w : World} {B q p g n : Nat} {v vr : Value} {D : List UInt8} {P : List (Nat × List UInt8)} {R : List (List UInt8)} {s e : Nat} (h : LogAt w B q p g n v vr D P R s e) : B ≤ w.heap.size := by have := h.bq; have := h.l.lt; omega
theorem LogAt.kept {w w' : World} {B q p g n : Nat} {v vr : Value} {D : List UInt8} {P : List (Nat × List UInt8)} {R : List (List UInt8)} {s e : Nat} {S : Nat → Prop} (h : LogAt w B q p g n v vr D P R s e) (hE : Elses S w w') (hS : ∀ k, LOwn q p g v vr k → ¬ S k) : LogAt w' B q p g n v vr D P R s e :=
  { h with d := h.d.kept hE fun k hk => hS k (.inl hk), l := h.l.kept hE (hS q (.inr (.inl rfl))), r := ownsRow_kept h.r hE fun k hk => hS k (.inr (.inr hk)) }
theorem LogAt.new {w w' : World} {B q p g n : Nat} {v vr : Value} {D : List UInt8} {P : List (Nat × List UInt8)} {R : List (List UInt8)} {s e : Nat} (h : LogAt w B q p g n v vr D P R s e) (hb : Below w.heap.size w w') : LogAt w' B q p g n v vr D P R s e :=
  h.kept (S := fun k => w.heap.size ≤ k) (.of_below' hb) fun k hk => by have := (h.lt k hk).2; omega
theorem LogAt.drew {w : World} {B q p g n : Nat} {v vr : Value} {D : List UInt8} {P : List (Nat × List UInt8)} {R : List (List UInt8)} {s e : Nat} (h : LogAt w B q p g n v vr D P R s e) : LogAt w.drew B q p g n v vr D P R s e := h.new (Below.refl _ _).drew
theorem LogAt.alloc {w : World} {B q p g n : Nat} {v vr : Value} {D : List UInt8} {P : List (Nat × List UInt8)} {R : List (List UInt8)} {s e : Nat} (h : LogAt w B q p g n v vr D P R s e) (o : Obj) : LogAt (w.alloc o) B q p g n v vr D P R s e := h.new ((Below.refl _ _).alloc (Nat.le_refl _) _)
theorem LogAt.step {a b : World} {B q p g n : Nat} {v vr : Value} {D : List UInt8} {P : List (Nat × List UInt8)} {R : List (List UInt8)} {s e : Nat} (h : LogAt a B q p g n v vr D P R s e) (he : Elses (LOwn q p g v vr) a b) : Below B a b := he.below h.base fun i hi => (h.lt i hi).1
/-- The log's cell and the log's row aren't the disk's. -/
theorem LogAt.q_far {w : World} {B q p g n : Nat} {v vr : Value} {D : List UInt8} {P : List (Nat × List UInt8)} {R : List (List UInt8)} {s e : Nat} (h : LogAt w B q p g n v vr D P R s e) : ¬ Own p g v q := not_own_type h.d h.l (by decide) (by decide) (by decide)
theorem LogAt.r_far {w : World} {B q p g n : Nat} {v vr : Value} {D : List UInt8} {P : List (Nat × List UInt8)} {R : List (List UInt8)} {s e : Nat} (h : LogAt w B q p g n v vr D P R s e) : ∀ k, vr.ownBlock = some k → ¬ Own p g v k := own_far h.d h.r (by decide) (by decide) (by decide)
theorem LogAt.q_ne {w : World} {B q p g n : Nat} {v vr : Value} {D : List UInt8} {P : List (Nat × List UInt8)} {R : List (List UInt8)} {s e : Nat} (h : LogAt w B q p g n v vr D P R s e) : vr.ownBlock ≠ some q := row_ne h.r h.l (by decide)
end Go.Proofs.YtbbnjnpbaekfgaaM
/- The contracts of a log's small methods. -/
set_option linter.unusedVariables false
set_option linter.unusedSimpArgs false
namespace Go.Proofs.YtbbnjnpbaekfgaaM
open Go.RowKit
set_option maxHeartbeats 400000 in
theorem lis_yes (q p : Nat) (a b c : Value) (w : World) (hl : Blk w q [.pointer (some ⟨p, 0, none⟩), a, b, c] 81) :
    Calls Try.prog 50 #[.pointer (some ⟨q, 0, none⟩)] w fun e w' => e = .returned (.bool true) ∧ w = w' := by
  have h0 := hl.cell 0
  clear hl
  go_enter Try.func50, Try.ntmps50
  go_wp2
  go_ret
  exact ⟨rfl, rfl⟩
theorem lis_nil (w : World) : Calls Try.prog 50 #[.pointer none] w fun e w' => e = .returned (.bool false) ∧ w = w' := by
  go_enter Try.func50, Try.ntmps50
  go_wp2
  go_ret
  exact ⟨rfl, rfl⟩
theorem lend_ok (q p : Nat) (a b : Value) (e : Nat) (w : World) (hl : Blk w q [.pointer (some ⟨p, 0, none⟩), a, b, .int .i64 (e : Int)] 81) :
    Calls Try.prog 16 #[.pointer (some ⟨q, 0, none⟩)] w fun e' w' => e' = .returned (.int .i64 (e : Int)) ∧ w = w' := by
  have HL := Lib.hid hl
  have h3 := hl.cell 3
  clear hl
  go_enter Try.func16, Try.ntmps16
  go_wp2_with (go_at_call 50; refine (lis_yes q p _ _ _ _ HL.out).mono ?_; rintro e w' ⟨rfl, rfl⟩)
  go_ret
  exact ⟨rfl, rfl⟩
theorem lsynced_ok (q p : Nat) (a b : Value) (s : Nat) (w : World) (hl : Blk w q [.pointer (some ⟨p, 0, none⟩), a, .int .i64 (s : Int), b] 81) :
    Calls Try.prog 29 #[.pointer (some ⟨q, 0, none⟩)] w fun e' w' => e' = .returned (.int .i64 (s : Int)) ∧ w = w' := by
  have HL := Lib.hid hl
  have h3 := hl.cell 2
  clear hl
  go_enter Try.func29, Try.ntmps29
  go_wp2_with (go_at_call 50; refine (lis_yes q p _ _ _ _ HL.out).mono ?_; rintro e w' ⟨rfl, rfl⟩)
  go_ret
  exact ⟨rfl, rfl⟩
theorem lleft_nil (w : World) : Calls Try.prog 17 #[.pointer none] w fun e w' => e = .returned (.int .i64 0) ∧ w = w' := by
  go_enter Try.func17, Try.ntmps17
  go_wp2_with (go_at_call 50; refine (lis_nil _).mono ?_; rintro e w' ⟨rfl, rfl⟩)
  go_ret
  exact ⟨rfl, rfl⟩
theorem lrecords_nil (w : World) : Calls Try.prog 30 #[.pointer none] w fun e w' => e = .returned (.slice none 0 0) ∧ w = w' := by
  go_enter Try.func30, Try.ntmps30
  go_wp2_with (go_at_call 50; refine (lis_nil _).mono ?_; rintro e w' ⟨rfl, rfl⟩)
  go_ret
  exact ⟨rfl, rfl⟩
theorem Blk.drewN {w : World} {I : Nat} {c : List Value} {t : TypeId} (h : Blk w I c t) (k : Nat) : Blk (w.drewN k) I c t := ((below_drewN (Below.refl w.heap.size w) k).block I h.lt).trans h
set_option maxHeartbeats 1000000 in
theorem lleft_q (B q p g n : Nat) (v vr : Value) (D : List UInt8) (P : List (Nat × List UInt8)) (R : List (List UInt8)) (s e : Nat) (w : World) (h : LogAt w B q p g n v vr D P R s e) :
    Calls Try.prog 17 #[.pointer (some ⟨q, 0, none⟩)] w fun e' w' => e' = .returned (.int .i64 ((n - e : Nat) : Int)) ∧ ∃ k, w' = w.drewN k := by
  have H := Lib.hid h
  have h0 := h.l.cell 0
  have h3 := h.l.cell 3
  simp only [List.getElem?_cons_zero, List.getElem?_cons_succ] at h0 h3
  have hn := h.d.top
  have he := h.he
  have HQ := Lib.hid (show ∀ k, Calls Try.prog 43 #[.pointer (some ⟨p, 0, none⟩)] (w.drewN k) fun e w' => e = .returned (.int .i64 (n : Int)) ∧ w' = w.drewN k from fun k => (sectors p g n _ _ (H.out.d.blk.drewN k) H.out.d.pos).mono fun e w' h => ⟨h.1, h.2.symm⟩)
  have hsub : (n : Int) - (e : Int) = ((n - e : Nat) : Int) := by omega
  have hn0 : (0 : Int) ≤ (n : Int) := by omega
  have he0 : (0 : Int) ≤ (e : Int) := by omega
  have hn1 : (n : Int) ≤ 1024 := by omega
  have he1 : (e : Int) ≤ 1024 := by omega
  clear h
  go_enter Try.func17, Try.ntmps17
  go_wp2_with (go_at_call 50; refine (lis_yes q p _ _ _ _ H.out.l).mono ?_; rintro e w' ⟨rfl, rfl⟩)
  go_quiet ((go_at_call 43; exact Calls.quiet_of_same (HQ.out _)))
  go_wp2
  go_ret
  exact ⟨rfl, _, rfl⟩
theorem lleft_ok (B q p g n : Nat) (v vr : Value) (D : List UInt8) (P : List (Nat × List UInt8)) (R : List (List UInt8)) (s e : Nat) (w : World) (h : LogAt w B q p g n v vr D P R s e) :
    Calls Try.prog 17 #[.pointer (some ⟨q, 0, none⟩)] w fun e' w' => e' = .returned (.int .i64 ((n - e : Nat) : Int)) ∧ Below w.heap.size w w' :=
  (lleft_q B q p g n v vr D P R s e w h).mono fun _ _ ⟨h1, k, h2⟩ => ⟨h1, by rw [h2]; exact below_drewN (Below.refl _ _) _⟩
theorem strs_get (l : List (List UInt8)) (j : Nat) (h : j < l.length) : (strs l)[j]? = some (.string (bs l[j])) := by
  unfold strs
  rw [List.getElem?_map, List.getElem?_eq_getElem h]
  rfl
theorem strs_one (l : List (List UInt8)) : ∀ u ∈ strs l, u.oneCell' = true := by
  intro u hu
  obtain ⟨x, _, rfl⟩ := List.mem_map.1 hu
  rfl
set_option maxRecDepth 100000 in
set_option maxHeartbeats 1000000 in
theorem clone_ok (B : Nat) (vr : Value) (R : List (List UInt8)) (w : World) (h : w.ownsRow B 9 1 vr R.length (strs R)) (hl : R.length ≤ 100000) :
    Calls Try.prog 55 #[vr] w (GivesStrs w R) := by
  obtain ⟨i9, hi0, hz0, hz1, hz2⟩ := info_parts info9
  have HI := Lib.hid (And.intro hi0 (And.intro hz0 (And.intro hz1 hz2)))
  clear hi0 hz0 hz1 hz2
  rcases h.2 with ⟨rfl, h0⟩ | ⟨g, cap, cur, rfl, hb, hg, r⟩
  · obtain rfl : R = [] := List.eq_nil_of_length_eq_zero h0
    clear h h0
    have hq := fun wx : World => Lib.run_eql_slice_nil (P := Try.prog) wx 34 9 none 0 0 0 0 Try.underlying34
    simp only [Option.isNone_none] at hq
    go_enter Try.func55, Try.ntmps55
    go_wp2
    go_ret
    exact ⟨_, rfl, World.ownsRow_nil _ _ _ _, Below.refl _ _⟩
  · have HE := Lib.hid (show (w.alloc (.cells #[] 9)).ownsRow w.heap.size 9 1 (.slice (some ⟨w.heap.size, 0, none⟩) 0 0) 0 [] from World.ownsRow_made w #[] 0 (Nat.le_refl _) (by unfold maxLen; omega) (by simp))
    have HN := Lib.hid (show ∀ j u, (strs R)[j]? = some u → (w.alloc (.cells #[] 9)).cell? ((⟨g, 0, none⟩ : Addr).add j) = some u from fun j u hu => by
      rw [World.cell?_alloc_lt _ _ _ (by rw [add_block]; exact (Array.getElem?_eq_some_iff.1 hg).1)]
      exact h.cells (g := g) rfl j u hu)
    clear h hg r
    have hq := fun wx : World => Lib.run_eql_slice_nil (P := Try.prog) wx 34 9 (some ⟨g, 0, none⟩) R.length cap 0 0 Try.underlying34
    simp only [Option.isNone_some] at hq
    go_enter Try.func55, Try.ntmps55
    go_wp2_with (at_builtin; refine wpList_append_own _ rfl _ _ 34 rfl w.heap.size 9 i9 (.string ⟨#[]⟩) 1 16 Try.underlying34 HI.out.1 HI.out.2.1 HI.out.2.2.1 HI.out.2.2.2 rfl (by decide) (.slice (some ⟨w.heap.size, 0, none⟩) 0 0) 0 [] rfl HE.out ⟨g, 0, none⟩ R.length cap (strs R) rfl (by simp [strs_length]) HN.out (strs_one R) (by unfold maxLen; omega) (by omega) (by simp) ?_; intro v6 w6 hown hgrow _)
    go_ret
    refine ⟨_, rfl, ?_, ((Below.refl w.heap.size w).alloc (Nat.le_refl _) (.cells #[] 9)).grown hgrow (by simp) fun k e => by cases e; exact Nat.le_refl _⟩
    rw [Nat.zero_add, List.nil_append] at hown
    exact hown
set_option maxHeartbeats 1000000 in
theorem lrecords_ok (B q p g n : Nat) (v vr : Value) (D : List UInt8) (P : List (Nat × List UInt8)) (R : List (List UInt8)) (s e : Nat) (w : World) (h : LogAt w B q p g n v vr D P R s e) :
    Calls Try.prog 30 #[.pointer (some ⟨q, 0, none⟩)] w (GivesStrs w R) := by
  have H := Lib.hid h
  have h1 := h.l.cell 1
  simp only [List.getElem?_cons_zero, List.getElem?_cons_succ] at h1
  have HC := Lib.hid (clone_ok B vr R w h.r h.few)
  obtain ⟨a, c, rfl⟩ := len_of_own h.r
  clear h
  go_enter Try.func30, Try.ntmps30
  go_wp2_with (go_at_call 50; refine (lis_yes q p _ _ _ _ H.out.l).mono ?_; rintro e w' ⟨rfl, rfl⟩)
  refine HC.out.mono ?_
  rintro e w1 ⟨x, rfl, ho, hb⟩
  obtain ⟨a', c', rfl⟩ := len_of_own ho
  have HO := Lib.hid (And.intro ho hb)
  clear ho hb h1
  go_wp2
  go_ret
  exact ⟨_, rfl, HO.out.1, HO.out.2⟩
end Go.Proofs.YtbbnjnpbaekfgaaM
/- The contracts of a log's Sync and Append. -/
set_option linter.unusedVariables false
set_option linter.unusedSimpArgs false
namespace Go.Proofs.YtbbnjnpbaekfgaaM
open Go.RowKit
/-- The block under a value is the same, or a new one. -/
def Fresh (w : World) (v v' : Value) : Prop := v'.ownBlock = v.ownBlock ∨ ∃ k, w.heap.size ≤ k ∧ v'.ownBlock = some k
theorem Fresh.refl (w : World) (v : Value) : Fresh w v v := .inl rfl
theorem Fresh.trans {a b : World} {u v x : Value} (h : Fresh a u v) (k : Fresh b v x) (hs : a.heap.size ≤ b.heap.size) : Fresh a u x := by
  rcases k with k | ⟨i, hi, k⟩
  · unfold Fresh
    rw [k]
    exact h
  · exact .inr ⟨i, by omega, k⟩
theorem Fresh.far {w : World} {v v' : Value} (h : Fresh w v v') {i : Nat} (hi : i < w.heap.size) (hn : v.ownBlock ≠ some i) : v'.ownBlock ≠ some i := by
  rcases h with h | ⟨k, hk, h⟩
  · rw [h]; exact hn
  · rw [h]; intro e; cases e; omega
theorem LogAt.field2 {w : World} {B q p g n : Nat} {v vr : Value} {D : List UInt8} {P : List (Nat × List UInt8)} {R : List (List UInt8)} {s e : Nat} (h : LogAt w B q p g n v vr D P R s e) {s' : Nat} (hs : s' ≤ R.length) : LogAt (w.setCell ⟨q, 2, none⟩ (.int .i64 (s' : Int))) B q p g n v vr D P R s' e := by
  have hE : Elses (fun k => k = q) w (w.setCell ⟨q, 2, none⟩ (.int .i64 (s' : Int))) := (Elses.refl (fun k => k = q) w).set (.inl rfl) _
  refine { h with d := h.d.kept hE fun k hk e => h.q_far (e ▸ hk), l := ?_, r := ownsRow_kept h.r hE fun k hk e => h.q_ne (e ▸ hk), hs := hs }
  have := h.l.set 2 (.int .i64 (s' : Int))
  simpa using this
theorem LogAt.field3 {w : World} {B q p g n : Nat} {v vr : Value} {D : List UInt8} {P : List (Nat × List UInt8)} {R : List (List UInt8)} {s e : Nat} (h : LogAt w B q p g n v vr D P R s e) {e' : Nat} (hs : e' ≤ n) : LogAt (w.setCell ⟨q, 3, none⟩ (.int .i64 (e' : Int))) B q p g n v vr D P R s e' := by
  have hE : Elses (fun k => k = q) w (w.setCell ⟨q, 3, none⟩ (.int .i64 (e' : Int))) := (Elses.refl (fun k => k = q) w).set (.inl rfl) _
  refine { h with d := h.d.kept hE fun k hk e => h.q_far (e ▸ hk), l := ?_, r := ownsRow_kept h.r hE fun k hk e => h.q_ne (e ▸ hk), he := hs }
  have := h.l.set 3 (.int .i64 (e' : Int))
  simpa using this
set_option maxHeartbeats 1000000 in
theorem lsync_ok (B q p g n : Nat) (v vr : Value) (D : List UInt8) (P : List (Nat × List UInt8)) (R : List (List UInt8)) (s e : Nat) (w : World) (h : LogAt w B q p g n v vr D P R s e) :
    Calls Try.prog 21 #[.pointer (some ⟨q, 0, none⟩)] w fun e' w' => e' = .returned (.int .i64 0) ∧ (∃ v', LogAt w' B q p g n v' vr (syncD D P) [] R R.length e ∧ v'.ownBlock = v.ownBlock) ∧ Elses (LOwn q p g v vr) w w' := by
  have H := Lib.hid h
  have HF := Lib.hid (h.field2 (s' := R.length) (Nat.le_refl _))
  have h1 := h.l.cell 1
  have h2 := h.l.cell 2
  have f2 := h.l.frozen 2
  have h0 := HF.out.l.cell 0
  simp only [List.getElem?_cons_zero, List.getElem?_cons_succ] at h0 h1 h2
  have h00 := h.l.cell 0
  simp only [List.getElem?_cons_zero] at h00
  obtain ⟨a, c, rfl⟩ := len_of_own h.r
  clear h
  go_enter Try.func21, Try.ntmps21
  go_wp2_with (go_at_call 50; refine (lis_yes q p _ _ _ _ H.out.l).mono ?_; rintro e w' ⟨rfl, rfl⟩)
  refine (sync_ok _ _ _ _ _ _ _ _ HF.out.d).mono ?_
  rintro e' w1 ⟨rfl, ⟨v', hd, hv⟩, hE⟩
  have HZ := Lib.hid (And.intro hd (And.intro hv hE))
  clear hd hv hE
  go_wp2
  go_ret
  refine ⟨rfl, ⟨v', { HF.out with d := HZ.out.1, l := HF.out.l.kept HZ.out.2.2 HF.out.q_far, r := ownsRow_kept HF.out.r HZ.out.2.2 HF.out.r_far }, HZ.out.2.1⟩, ?_⟩
  exact (((Elses.refl (LOwn q p g v (.slice a R.length c)) w).set (p := ⟨q, 2, none⟩) (.inl (.inr (.inl rfl))) _)).trans (HZ.out.2.2.mono fun i hi => .inl hi)
theorem LogAt.disk {a b : World} {B q p g n : Nat} {v v' vr : Value} {D D' : List UInt8} {P P' : List (Nat × List UInt8)} {R : List (List UInt8)} {s e : Nat} (h : LogAt a B q p g n v vr D P R s e) (hd : DiskAt b B p g n v' D' P') (he : Elses (Own p g v) a b) : LogAt b B q p g n v' vr D' P' R s e :=
  { h with d := hd, l := h.l.kept he h.q_far, r := ownsRow_kept h.r he h.r_far }
theorem LogAt.push {w w6 : World} {B q p g n : Nat} {v vr : Value} {D : List UInt8} {P : List (Nat × List UInt8)} {R : List (List UInt8)} {s e : Nat} (h : LogAt w B q p g n v vr D P R s e) (r : List UInt8) (o : Obj) {gg cc : Nat} (hR : R.length + 1 ≤ 100000)
    (hg : (w.alloc o).grownBy w6 vr.ownBlock) (hown : w6.ownsRow B 9 1 (.slice (some ⟨gg, 0, none⟩) (R.length + 1) cc) (R.length + 1) (strs R ++ [.string (bs r)])) (hat : vr.ownBlock = some gg ∨ gg = w.heap.size + 1) :
    LogAt (w6.setCell ⟨q, 1, none⟩ (.slice (some ⟨gg, 0, none⟩) (R.length + 1) cc)) B q p g n v (.slice (some ⟨gg, 0, none⟩) (R.length + 1) cc) D P (R ++ [r]) s e ∧ Fresh w vr (.slice (some ⟨gg, 0, none⟩) (R.length + 1) cc) ∧ Elses (LOwn q p g v vr) w (w6.setCell ⟨q, 1, none⟩ (.slice (some ⟨gg, 0, none⟩) (R.length + 1) cc)) := by
  have hE6 : Elses (fun k => vr.ownBlock = some k) w w6 := ((Elses.refl _ w).alloc o).grown hg fun k hk => .inl hk
  have hq6 : Elses (fun k => k = q) w6 (w6.setCell ⟨q, 1, none⟩ (.slice (some ⟨gg, 0, none⟩) (R.length + 1) cc)) := (Elses.refl (fun k => k = q) w6).set (.inl rfl) _
  have hgq : gg ≠ q := by
    rcases hat with e | e
    · exact fun x => h.q_ne (x ▸ e)
    · have := h.l.lt; omega
  refine ⟨{ h with d := (h.d.kept hE6 fun k hk e => h.r_far k e hk).kept hq6 fun k hk e => h.q_far (e ▸ hk), l := ?_, r := ?_, hs := ?_, few := ?_ }, ?_, (hE6.mono fun i hi => .inr (.inr hi)).trans (hq6.mono fun i hi => .inr (.inl hi))⟩
  · have := (h.l.kept hE6 h.q_ne).set 1 (.slice (some ⟨gg, 0, none⟩) (R.length + 1) cc)
    simpa using this
  · rw [List.length_append, strs_append]
    exact ownsRow_kept hown hq6 fun k hk e => hgq (by simp only [Value.ownBlock, Option.some.injEq] at hk; exact hk.trans e)
  · rw [List.length_append]
    have := h.hs
    omega
  · rw [List.length_append]
    exact hR
  · rcases hat with e | e
    · exact .inl e.symm
    · exact .inr ⟨gg, by omega, rfl⟩
/-- The writes of a record's sectors. -/
def fwL (e : Nat) (r : List UInt8) : List (Nat × List UInt8) := (List.range (needN r.length)).map fun i => (e + i, frameI e r i)
theorem fwL_length (e : Nat) (r : List UInt8) : (fwL e r).length = needN r.length := by simp [fwL]
theorem fwL_take (e : Nat) (r : List UInt8) (k : Nat) (h : k < needN r.length) : (fwL e r).take (k + 1) = (fwL e r).take k ++ [(e + k, frameI e r k)] := by
  rw [List.take_succ_eq_append_getElem (by rw [fwL_length]; exact h)]
  congr 2
  unfold fwL
  simp
theorem ownsRow_pos {w : World} {B e size n : Nat} {v : Value} {xs : List Value} (h : w.ownsRow B e size v n xs) (hn : 1 ≤ n) : ∃ g c, v = .slice (some ⟨g, 0, none⟩) n c := by
  rcases h.2 with ⟨rfl, h0⟩ | ⟨g, cap, cur, rfl, _⟩
  · omega
  · exact ⟨_, _, rfl⟩
theorem write_at (B p g n : Nat) (v : Value) (D : List UInt8) (P : List (Nat × List UInt8)) (w : World) (h : DiskAt w B p g n v D P) (at_ : Nat) (hat : at_ < n) (x : Int) (hx : x = (at_ : Int)) (bv : Value) (b : List UInt8) (hb : BytesAt w bv b) (hl : b.length = 512) (hP : P.length < 100000) :
    Calls Try.prog 46 #[.pointer (some ⟨p, 0, none⟩), .int .i64 x, bv] w fun e w' => e = .returned (.int .i64 0) ∧ (∃ v', DiskAt w' B p g n v' D (P ++ [(at_, b)]) ∧ Fresh w v v') ∧ Elses (Own p g v) w w' := by
  subst hx
  have := write_ok B p g n v D P w h at_ hat bv b hb (by omega) hP
  rw [hl, show b ++ zeros (512 - 512) = b by simp [zeros]] at this
  exact this
attribute [local go_sem ↓] exec_bytes Go.wp_at_zero Go.wp_at_succ
attribute [local go_sem] via_bytes
set_option maxRecDepth 100000 in
set_option maxHeartbeats 4000000 in
theorem lappend_ok (B q p g n : Nat) (v vr : Value) (D : List UInt8) (P : List (Nat × List UInt8)) (R : List (List UInt8)) (s e : Nat) (w : World) (h : LogAt w B q p g n v vr D P R s e) (r : List UInt8) (hr : r.length ≤ 4400) (hfit : e + needN r.length ≤ n) (hP : P.length ≤ 90000) (hR : R.length ≤ 90000) :
    Calls Try.prog 15 #[.pointer (some ⟨q, 0, none⟩), .string (bs r)] w fun e' w' => e' = .returned (.int .i64 0) ∧ (∃ v' vr', LogAt w' B q p g n v' vr' D (P ++ fwL e r) (R ++ [r]) s (e + needN r.length) ∧ Fresh w v v' ∧ Fresh w vr vr') ∧ Elses (LOwn q p g v vr) w w' := by
  have H := Lib.hid h
  have h0 := h.l.cell 0
  have h3 := h.l.cell 3
  simp only [List.getElem?_cons_zero, List.getElem?_cons_succ] at h0 h3
  have hn := h.d.top
  have hsz : (bs r).size = r.length := bs_size r
  have hnp := needN_pos r.length
  have hnl := needN_le r.length hr
  obtain ⟨m, hm⟩ : ∃ m, m = needN r.length := ⟨_, rfl⟩
  have HM := Lib.hid hm
  have HFM := Lib.hid (frame_ok e r (by omega) hr)
  rw [← hm] at hnp hnl hfit ⊢
  have HC := Lib.hid (show ∀ w, Calls Try.prog 23 #[.int .i64 (r.length : Int)] w fun e w' => e = .returned (.int .i64 (m : Int)) ∧ w = w' from fun w => by rw [hm]; exact need_ok r.length hr w)
  have hm0 : ((m : Int) == 0) = false := by rw [beq_eq_false_iff_ne]; omega
  have hml : ¬ ((n - e : Nat) : Int) < (m : Int) := by omega
  have hmd : decide (((n - e : Nat) : Int) < (m : Int)) = false := decide_eq_false hml
  clear h hm
  go_enter Try.func15, Try.ntmps15
  go_wp2_with fail
  refine (HC.out _).mono ?_
  rintro e' w' ⟨rfl, rfl⟩
  go_wp2_with (first | (go_at_call 50; refine (lis_yes q p _ _ _ _ H.out.l).mono ?_; rintro e w' ⟨rfl, rfl⟩))
  refine (lleft_ok _ _ _ _ _ _ _ _ _ _ _ _ _ H.out).mono ?_
  rintro e' w1 ⟨rfl, hb1⟩
  have H1 := Lib.hid (H.out.new hb1)
  have HB1 := Lib.hid hb1
  have h30 := H1.out.l.cell 3
  simp only [List.getElem?_cons_zero, List.getElem?_cons_succ] at h30
  clear hb1 h0 h3
  go_wp2_with fail
  refine (HFM.out _).mono ?_
  rintro e' w2 ⟨vf, rfl, hof, hb2⟩
  rw [frameS_length, ← HM.out] at hof
  obtain ⟨gf, cf, rfl⟩ := ownsRow_pos hof hnp
  have H2 := Lib.hid (H1.out.new hb2)
  have HB2 := Lib.hid (HB1.out.trans (hb2.mono HB1.out.size))
  have HOF := Lib.hid hof
  clear hof hb2 h30
  go_wp2_with fail
  go_loopw [30] (fun iv wr => ∃ (k : Nat) (v' : Value), k ≤ m ∧ iv = .int .i64 (k : Int) ∧ Hid (LogAt wr B q p g n v' vr D (P ++ (fwL e r).take k) R s e) ∧ Hid (Fresh w v v') ∧ Hid (Elses (LOwn q p g v vr) w wr) ∧ Hid (wr.ownsRow w1.heap.size 9 1 (.slice (some ⟨gf, 0, none⟩) m cf) m (strs (frameS e r))) ∧ Hid (vr.ownBlock ≠ some gf)) (fun iv _ => m - (intOf iv).toNat)
  case atStart => exact ⟨0, v, Nat.zero_le _, rfl, show LogAt _ _ _ _ _ _ _ _ _ _ _ _ _ by simpa using H2.out, Fresh.refl _ _, .of_below' HB2.out, HOF.out, fun e => by have := (H1.out.r.lt gf e).2; have := (HOF.out.lt gf rfl).1; omega⟩
  case round =>
    obtain ⟨k, v', hk, rfl, HL, HV, HE, HO, HN⟩ := hrel
    obtain ⟨wi, rfl⟩ : ∃ wi, wi = wr := ⟨wr, rfl⟩
    by_cases hlt : k < m
    · have hk' : (k : Int) < (m : Int) := by omega
      have hk0 : (0 : Int) ≤ (k : Int) := by omega
      obtain ⟨F, hF⟩ : ∃ F, F = frameI e r k := ⟨_, rfl⟩
      have hFl : F.length = 512 := by rw [hF]; exact frameI_length e r k
      have hck : wi.cell? ⟨gf, k, none⟩ = some (.string (bs F)) := by
        have := HO.out.cells (g := gf) rfl k (.string (bs F)) (by rw [strs_get _ k (by rw [frameS_length, ← HM.out]; exact hlt), hF]; simp [frameS])
        rw [addr_add, Nat.zero_add] at this
        exact this
      have c0 := HL.out.l.cell 0
      have c3 := HL.out.l.cell 3
      simp only [List.getElem?_cons_zero, List.getElem?_cons_succ] at c0 c3
      have hql := HL.out.l.lt
      have HF := Lib.hid (And.intro hF hFl)
      have hS0 : wi.drew.cell? ⟨q, 0, none⟩ = some (.pointer (some ⟨p, 0, none⟩)) ∧ wi.drew.cell? ⟨q, 3, none⟩ = some (.int .i64 (e : Int)) := ⟨c0, c3⟩
      have hS1 : (BW wi.drew F).cell? ⟨q, 0, none⟩ = some (.pointer (some ⟨p, 0, none⟩)) ∧ (BW wi.drew F).cell? ⟨q, 3, none⟩ = some (.int .i64 (e : Int)) := ⟨((bw_below wi.drew F).cell (p := ⟨q, 0, none⟩) hql).trans c0, ((bw_below wi.drew F).cell (p := ⟨q, 3, none⟩) hql).trans c3⟩
      have HQF := Lib.hid HL.out.q_far
      have hfew : (P ++ (fwL e r).take k).length < 100000 := by
        rw [List.length_append, List.length_take, fwL_length, ← HM.out]
        omega
      have HFW := Lib.hid hfew
      have hek : (e : Int) + (k : Int) = ((e + k : Nat) : Int) := by omega
      have HEK := Lib.hid (And.intro hek (show e + k < n by omega))
      clear hF hFl hfew hek
      have hwr : IntKind.i64.wrap ((e : Int) + (k : Int)) = (e : Int) + (k : Int) := IntWalk.i64_in _ (by omega)
      go_wp2
      go_region_held (fun w' => w'.cell? ⟨q, 0, none⟩ = some (.pointer (some ⟨p, 0, none⟩)) ∧ w'.cell? ⟨q, 3, none⟩ = some (.int .i64 (e : Int))) (first | assumption | exact hS0 | exact hS1) (first
        | (go_at_call 46; refine (write_at _ _ _ _ _ _ _ _ ((HL.out.d.drew).new (bw_below wi.drew F)) (e + k) HEK.out.2 _ HEK.out.1 _ F (bw_bytes wi.drew F _) HF.out.2 HFW.out).mono ?_; rintro e' wb ⟨rfl, ⟨vb, hdb, hvb⟩, heb⟩; have hSW : wb.cell? ⟨q, 0, none⟩ = some (.pointer (some ⟨p, 0, none⟩)) ∧ wb.cell? ⟨q, 3, none⟩ = some (.int .i64 (e : Int)) := ⟨(heb.cell (p := ⟨q, 0, none⟩) (Nat.lt_of_lt_of_le hql (bw_below wi.drew F).size) HQF.out).trans hS1.1, (heb.cell (p := ⟨q, 3, none⟩) (Nat.lt_of_lt_of_le hql (bw_below wi.drew F).size) HQF.out).trans hS1.2⟩; have HWb := Lib.hid (And.intro hdb (And.intro hvb heb)); clear hdb hvb heb))
      all_goals
        go_wp2
        go_roundw
        case rel =>
          have hLB := (HL.out.drew).new (bw_below wi.drew F)
          have hEB : Elses (LOwn q p g v vr) w (BW wi.drew F) := (HE.out.drew).trans' (Elses.of_new (S := fun _ => False) (bw_below wi.drew F)) fun i hi => hi.elim
          refine ⟨k + 1, vb, by omega, by go_num, ?_, ?_, ?_, ?_, HN.out⟩
          · show LogAt _ _ _ _ _ _ _ _ _ _ _ _ _
            rw [fwL_take e r k (by rw [← HM.out]; exact hlt), ← HF.out.1, ← List.append_assoc]
            exact hLB.disk HWb.out.1 HWb.out.2.2
          · exact HV.out.trans HWb.out.2.1 hEB.size
          · refine hEB.trans' HWb.out.2.2 fun i hi => ?_
            rcases hi with rfl | rfl | hi
            · exact .inl (.inl (.inl rfl))
            · exact .inl (.inl (.inr (.inl rfl)))
            · rcases HV.out with e1 | ⟨k1, hk1, e1⟩
              · exact .inl (.inl (.inr (.inr (e1 ▸ hi))))
              · rw [e1] at hi
                cases hi
                exact .inr hk1
          · have h1 := own_below (show wi.drew.ownsRow _ _ _ _ _ _ from HO.out) (bw_below wi.drew F)
            exact ownsRow_kept h1 HWb.out.2.2 (own_far hLB.d h1 (by decide) (by decide) (by decide))
        case measure => simp [intOf]; omega
    · have hk' : ¬ (k : Int) < (m : Int) := by omega
      obtain rfl : k = m := by omega
      have HL2 := Lib.hid (show LogAt wi B q p g n v' vr D (P ++ fwL e r) R s e by
        have := HL.out
        rw [List.take_of_length_le (by rw [fwL_length, ← HM.out]; exact Nat.le_refl _)] at this
        exact this)
      have HL3 := Lib.hid (HL2.out.field3 (e' := e + k) hfit)
      have c3 := HL2.out.l.cell 3
      have f3 := HL2.out.l.frozen 3
      have f1 := HL2.out.l.frozen 1
      have c1 := HL3.out.l.cell 1
      simp only [List.getElem?_cons_zero, List.getElem?_cons_succ] at c1 c3
      rw [Int.natCast_add] at c1
      have hrow := HL3.out.r
      rw [Int.natCast_add] at hrow
      have HRW := Lib.hid hrow
      obtain ⟨i9, hi0, hz0, hz1, hz2⟩ := info_parts info9
      have HI := Lib.hid (And.intro hi0 (And.intro hz0 (And.intro hz1 hz2)))
      have HN1 := Lib.hid (show ∀ j u, ([.string (bs r)] : List Value)[j]? = some u → ((wi.setCell ⟨q, 3, none⟩ (.int .i64 ((e : Int) + (k : Int)))).alloc (.cells [Value.string (bs r)].toArray 9)).cell? ((⟨wi.heap.size, 0, none⟩ : Addr).add j) = some u from fun j u hu => by
        have := (Blk.new (wi.setCell ⟨q, 3, none⟩ (.int .i64 ((e : Int) + (k : Int)))) [.string (bs r)] 9).cell j
        rw [show (wi.setCell ⟨q, 3, none⟩ (.int .i64 ((e : Int) + (k : Int)))).heap.size = wi.heap.size by simp [World.setCell]] at this
        rw [addr_add, Nat.zero_add, this]
        exact hu)
      have hql := HL2.out.l.lt
      have hbase := HL2.out.base
      have hqr := HL2.out.q_ne
      clear hi0 hz0 hz1 hz2 hrow
      go_wp2_with (at_builtin; refine wpList_append_lies _ rfl _ _ 34 rfl B 9 i9 (.string ⟨#[]⟩) 1 16 Try.underlying34 HI.out.1 HI.out.2.1 HI.out.2.2.1 HI.out.2.2.2 rfl (by decide) vr R.length (strs R) rfl (HRW.out.alloc _) ⟨wi.heap.size, 0, none⟩ 1 1 [.string (bs r)] rfl rfl HN1.out (by intro u hu; rw [List.mem_singleton.1 hu]; rfl) (by omega) (by unfold maxLen; omega) (by omega) (by simp; omega) (wi.heap.size + 1) (by simp) ?_; intro gg cc w6 hown hgrow hat1 hlt1; have q1 := cell_far' hgrow q 1 (by simp; omega) hqr; have q2 := frozen_far' hgrow q 1 (by simp; omega) hqr)
      have hat2 : vr.ownBlock = some gg ∨ gg = (wi.setCell ⟨q, 3, none⟩ (.int .i64 ((e + k : Nat) : Int))).heap.size + 1 := by
        rcases hat1 with e1 | e1
        · exact .inl e1
        · exact .inr (by simpa [World.setCell] using e1)
      rw [← Int.natCast_add] at hgrow
      have hpush := HL3.out.push r (.cells [Value.string (bs r)].toArray 9) (by omega) hgrow hown hat2
      have HPU := Lib.hid hpush
      clear hpush hown hgrow hat1 hat2 q1 q2
      go_ret
      refine ⟨rfl, ⟨v', _, HPU.out.1, HV.out, ?_⟩, ?_⟩
      · rcases HPU.out.2.1 with e1 | ⟨x, hx, e1⟩
        · exact .inl e1
        · exact .inr ⟨x, Nat.le_trans HE.out.size (by simpa [World.setCell] using hx), e1⟩
      · have h3 : Elses (LOwn q p g v vr) w (wi.setCell ⟨q, 3, none⟩ (.int .i64 ((e + k : Nat) : Int))) := HE.out.set (.inl (.inr (.inl rfl))) _
        refine h3.trans' HPU.out.2.2 fun i hi => ?_
        rcases hi with (rfl | rfl | hi) | hi | hi
        · exact .inl (.inl (.inl rfl))
        · exact .inl (.inl (.inr (.inl rfl)))
        · rcases HV.out with e1 | ⟨k1, hk1, e1⟩
          · exact .inl (.inl (.inr (.inr (e1 ▸ hi))))
          · rw [e1] at hi
            cases hi
            exact .inr hk1
        · exact .inl (.inr (.inl hi))
        · exact .inl (.inr (.inr hi))
end Go.Proofs.YtbbnjnpbaekfgaaM
/- The contracts of a log's Append where it is refused; of slices.ContainsFunc as Open calls it. -/
set_option linter.unusedVariables false
set_option linter.unusedSimpArgs false
namespace Go.Proofs.YtbbnjnpbaekfgaaM
open Go.RowKit
theorem lappend_long (q p : Nat) (a b c : Value) (w : World) (hl : Blk w q [.pointer (some ⟨p, 0, none⟩), a, b, c] 81) (s : ByteArray) (hs : 4400 < s.size) :
    Calls Try.prog 15 #[.pointer (some ⟨q, 0, none⟩), .string s] w fun e w' => e = .returned (.int .i64 4) ∧ w = w' := by
  have HL := Lib.hid hl
  have hs' : (4400 : Int) < (s.size : Int) := by omega
  have HS := Lib.hid hs'
  clear hl
  go_enter Try.func15, Try.ntmps15
  go_wp2_with fail
  refine (need_no _ (.inr HS.out) _).mono ?_
  rintro e' w' ⟨rfl, rfl⟩
  go_wp2_with (first | (go_at_call 50; refine (lis_yes q p _ _ _ _ HL.out).mono ?_; rintro e w' ⟨rfl, rfl⟩))
  go_ret
  exact ⟨rfl, rfl⟩
theorem lappend_nil (w : World) (r : List UInt8) (hr : r.length ≤ 4400) :
    Calls Try.prog 15 #[.pointer none, .string (bs r)] w fun e w' => e = .returned (.int .i64 1) ∧ w = w' := by
  have hsz : (bs r).size = r.length := bs_size r
  have HR := Lib.hid hr
  go_enter Try.func15, Try.ntmps15
  go_wp2_with fail
  refine (need_ok _ HR.out _).mono ?_
  rintro e' w' ⟨rfl, rfl⟩
  go_wp2_with (first | (go_at_call 50; refine (lis_nil _).mono ?_; rintro e w' ⟨rfl, rfl⟩))
  go_ret
  exact ⟨rfl, rfl⟩
set_option maxHeartbeats 1000000 in
theorem lappend_fq (B q p g n : Nat) (v vr : Value) (D : List UInt8) (P : List (Nat × List UInt8)) (R : List (List UInt8)) (s e : Nat) (w : World) (h : LogAt w B q p g n v vr D P R s e) (r : List UInt8) (hr : r.length ≤ 4400) (hfit : n < e + needN r.length) :
    Calls Try.prog 15 #[.pointer (some ⟨q, 0, none⟩), .string (bs r)] w fun e' w' => e' = .returned (.int .i64 13) ∧ ∃ k, w' = w.drewN k := by
  have H := Lib.hid h
  have hn := h.d.top
  have he := h.he
  have hsz : (bs r).size = r.length := bs_size r
  have hnp := needN_pos r.length
  have hnl := needN_le r.length hr
  obtain ⟨m, hm⟩ : ∃ m, m = needN r.length := ⟨_, rfl⟩
  rw [← hm] at hnp hnl hfit
  have HC := Lib.hid (show ∀ w, Calls Try.prog 23 #[.int .i64 (r.length : Int)] w fun e w' => e = .returned (.int .i64 (m : Int)) ∧ w = w' from fun w => by rw [hm]; exact need_ok r.length hr w)
  have hm0 : ((m : Int) == 0) = false := by rw [beq_eq_false_iff_ne]; omega
  have hml : ((n - e : Nat) : Int) < (m : Int) := by omega
  have hmd : decide (((n - e : Nat) : Int) < (m : Int)) = true := decide_eq_true hml
  clear h hm
  go_enter Try.func15, Try.ntmps15
  go_wp2_with fail
  refine (HC.out _).mono ?_
  rintro e' w' ⟨rfl, rfl⟩
  go_wp2_with (first | (go_at_call 50; refine (lis_yes q p _ _ _ _ H.out.l).mono ?_; rintro e w' ⟨rfl, rfl⟩))
  refine (lleft_q _ _ _ _ _ _ _ _ _ _ _ _ _ H.out).mono ?_
  rintro e' w1 ⟨rfl, j, rfl⟩
  go_wp2_with fail
  all_goals
    first
    | (go_ret; exact ⟨rfl, j, rfl⟩)
    | (exfalso; omega)
theorem lappend_full (B q p g n : Nat) (v vr : Value) (D : List UInt8) (P : List (Nat × List UInt8)) (R : List (List UInt8)) (s e : Nat) (w : World) (h : LogAt w B q p g n v vr D P R s e) (r : List UInt8) (hr : r.length ≤ 4400) (hfit : n < e + needN r.length) :
    Calls Try.prog 15 #[.pointer (some ⟨q, 0, none⟩), .string (bs r)] w fun e' w' => e' = .returned (.int .i64 13) ∧ Below w.heap.size w w' :=
  (lappend_fq B q p g n v vr D P R s e w h r hr hfit).mono fun _ _ ⟨h1, k, h2⟩ => ⟨h1, by rw [h2]; exact below_drewN (Below.refl _ _) _⟩
/-- Is there a byte that is not nought? -/
def anyNZ (l : List UInt8) : Bool := l.any (· != 0)
theorem anyNZ_iff (l : List UInt8) (n : Nat) (h : l.length = n) : anyNZ l = true ↔ l ≠ zeros n := by
  unfold anyNZ
  rw [List.any_eq_true]
  constructor
  · rintro ⟨x, hx, h0⟩ e
    rw [e] at hx
    have := List.eq_of_mem_replicate hx
    subst this
    exact absurd h0 (by decide)
  · intro hne
    apply Classical.byContradiction
    intro hno
    apply hne
    apply List.eq_replicate_iff.2
    refine ⟨h, fun x hx => ?_⟩
    apply Classical.byContradiction
    intro hx0
    exact hno ⟨x, hx, by simpa using hx0⟩
theorem nz_ok (x : Nat) (w : World) : Calls Try.prog 48 #[.int .u8 (x : Int)] w fun e w' => e = .returned (.bool ((x : Int) != 0)) ∧ w = w' := by
  go_enter Try.func48, Try.ntmps48
  go_wp2
  go_ret
  exact ⟨rfl, rfl⟩
set_option maxHeartbeats 1000000 in
theorem index_ok (g off cap : Nat) (l : List UInt8) (hl : l.length ≤ 1000) (w : World) (hc : ∀ j u, (byteCells l)[j]? = some u → w.cell? ⟨g, off + j, none⟩ = some u) :
    Calls Try.prog 64 #[.slice (some ⟨g, off, none⟩) l.length cap, .func (.func 48) #[] #[]] w fun e w' => ((anyNZ l = true ∧ ∃ i : Nat, i ≤ 1000 ∧ e = .returned (.int .i64 (i : Int))) ∨ (anyNZ l = false ∧ e = .returned (.int .i64 (-1)))) ∧ w = w' := by
  have HC := Lib.hid hc
  clear hc
  go_enter Try.func64, Try.ntmps64
  go_wp2_with fail
  go_loop [8] (fun iv => ∃ k : Nat, k ≤ l.length ∧ iv = .int .i64 (k : Int) ∧ Hid (∀ j (h : j < l.length), j < k → l[j] = 0)) (fun iv => l.length - (intOf iv).toNat)
  case atStart => exact ⟨0, Nat.zero_le _, rfl, fun j _ h => by omega⟩
  case round =>
    obtain ⟨k, hk, rfl, HA⟩ := hrel
    by_cases hlt : k < l.length
    · have hk' : (k : Int) < (l.length : Int) := by omega
      have hck := HC.out k (.int .u8 (l[k].toNat : Int)) (by unfold byteCells; rw [List.getElem?_map, List.getElem?_eq_getElem hlt]; rfl)
      obtain ⟨x, hx⟩ : ∃ x, x = l[k].toNat := ⟨_, rfl⟩
      rw [← hx] at hck
      have HX := Lib.hid hx
      clear hx
      by_cases hz : x = 0
      · have hz1 : ((x : Int) != 0) = false := by rw [bne_eq_false_iff_eq]; omega
        have HZ := Lib.hid hz
        clear hz
        go_wp2_with fail
        refine (nz_ok x _).mono ?_
        rintro e w' ⟨rfl, rfl⟩
        rw [hz1]
        go_wp2_with fail
        go_round
        case rel =>
          refine ⟨k + 1, by omega, by go_num, show ∀ _ _, _ → _ from fun j hj hjk => ?_⟩
          by_cases e : j = k
          · subst e
            apply UInt8.toNat_inj.1
            rw [← HX.out, HZ.out]
            rfl
          · exact HA.out j hj (by omega)
        case measure => simp [intOf]; omega
      · have hz1 : ((x : Int) != 0) = true := by rw [bne_iff_ne]; omega
        have HZ := Lib.hid hz
        clear hz
        go_wp2_with fail
        refine (nz_ok x _).mono ?_
        rintro e w' ⟨rfl, rfl⟩
        rw [hz1]
        go_wp2_with fail
        go_ret
        refine ⟨.inl ⟨?_, k, by omega, rfl⟩, rfl⟩
        unfold anyNZ
        rw [List.any_eq_true]
        refine ⟨l[k], List.getElem_mem hlt, ?_⟩
        rw [bne_iff_ne]
        intro e0
        rw [e0] at HX
        exact HZ.out HX.out
    · have hk' : ¬ (k : Int) < (l.length : Int) := by omega
      obtain rfl : k = l.length := by omega
      go_wp2_with fail
      go_ret
      refine ⟨.inr ⟨?_, rfl⟩, rfl⟩
      unfold anyNZ
      rw [List.any_eq_false]
      intro x hx
      obtain ⟨j, hj, rfl⟩ := List.mem_iff_getElem.1 hx
      rw [HA.out j hj hj]
      decide
set_option maxHeartbeats 1000000 in
theorem contains_ok (g off cap : Nat) (l : List UInt8) (hl : l.length ≤ 1000) (w : World) (hc : ∀ j u, (byteCells l)[j]? = some u → w.cell? ⟨g, off + j, none⟩ = some u) :
    Calls Try.prog 47 #[.slice (some ⟨g, off, none⟩) l.length cap, .func (.func 48) #[] #[]] w fun e w' => e = .returned (.bool (anyNZ l)) ∧ w = w' := by
  have HC := Lib.hid (index_ok g off cap l hl w hc)
  clear hc
  go_enter Try.func47, Try.ntmps47
  go_wp2_with fail
  refine HC.out.mono ?_
  rintro e w' ⟨⟨h1, i, hi, rfl⟩ | ⟨h1, rfl⟩, rfl⟩
  · have hi0 : decide (0 ≤ (i : Int)) = true := by rw [decide_eq_true_eq]; omega
    go_wp2_with fail
    go_ret
    exact ⟨by rw [h1]; rfl, rfl⟩
  · go_wp2_with fail
    go_ret
    exact ⟨by rw [h1]; rfl, rfl⟩
end Go.Proofs.YtbbnjnpbaekfgaaM
/- The plain theory of opening a log: what is read behind writes, the noughts that opening writes, the image behind it. -/
set_option linter.unusedVariables false
set_option linter.unusedSimpArgs false
namespace Go.Proofs.YtbbnjnpbaekfgaaM
theorem readP_append (D : List UInt8) (P Q : List (Nat × List UInt8)) (i : Nat) : readP D (P ++ Q) i = Q.foldl (fun s x => if x.1 = i then x.2 else s) (readP D P i) := by
  unfold readP
  rw [List.foldl_append]
theorem fold_other (Q : List (Nat × List UInt8)) (i : Nat) : ∀ s : List UInt8, (∀ x ∈ Q, x.1 ≠ i) → Q.foldl (fun s x => if x.1 = i then x.2 else s) s = s := by
  induction Q with
  | nil => intro s _; rfl
  | cons x Q ih =>
    intro s h
    rw [List.foldl_cons, if_neg (h x List.mem_cons_self)]
    exact ih s fun y hy => h y (List.mem_cons_of_mem _ hy)
theorem readP_other (D : List UInt8) (P Q : List (Nat × List UInt8)) (i : Nat) (h : ∀ x ∈ Q, x.1 ≠ i) : readP D (P ++ Q) i = readP D P i := by
  rw [readP_append, fold_other Q i _ h]
/-- The noughts that opening writes, up to the k-th sector. -/
def zwL (I : List UInt8) (e : Nat) : Nat → List (Nat × List UInt8)
  | 0 => []
  | k + 1 => if e ≤ k ∧ anyNZ (sec I k) = true then zwL I e k ++ [(k, zeros 512)] else zwL I e k
theorem zwL_yes {I : List UInt8} {e k : Nat} (h : e ≤ k) (hz : anyNZ (sec I k) = true) : zwL I e (k + 1) = zwL I e k ++ [(k, zeros 512)] := by
  show (if _ then _ else _) = _
  rw [if_pos ⟨h, hz⟩]
theorem zwL_no {I : List UInt8} {e k : Nat} (hz : anyNZ (sec I k) = false) : zwL I e (k + 1) = zwL I e k := by
  show (if _ then _ else _) = _
  rw [if_neg (by rw [hz]; simp)]
theorem zwL_below {I : List UInt8} {e : Nat} : ∀ k, k ≤ e → zwL I e k = []
  | 0, _ => rfl
  | k + 1, h => by
    show (if _ then _ else _) = _
    rw [if_neg (by omega)]
    exact zwL_below k (by omega)
theorem zwL_mem {I : List UInt8} {e : Nat} : ∀ k, ∀ x ∈ zwL I e k, x.1 < k ∧ e ≤ x.1 ∧ x.2 = zeros 512
  | 0, x, h => by simp [zwL] at h
  | k + 1, x, h => by
    unfold zwL at h
    split at h
    · rename_i hc
      rcases List.mem_append.1 h with h | h
      · have := zwL_mem k x h
        exact ⟨by omega, this.2⟩
      · obtain rfl := List.mem_singleton.1 h
        exact ⟨by show k < k + 1; omega, hc.1, rfl⟩
    · have := zwL_mem k x h
      exact ⟨by omega, this.2⟩
theorem zwL_length {I : List UInt8} {e : Nat} : ∀ k, (zwL I e k).length ≤ k
  | 0 => Nat.le_refl _
  | k + 1 => by
    have := zwL_length (I := I) (e := e) k
    unfold zwL
    split
    · rw [List.length_append]; simp; omega
    · omega
theorem zwL_fold (I : List UInt8) (e i : Nat) (s : List UInt8) : ∀ k, (zwL I e k).foldl (fun s x => if x.1 = i then x.2 else s) s = if i < k ∧ e ≤ i ∧ anyNZ (sec I i) = true then zeros 512 else s
  | 0 => by simp [zwL]
  | k + 1 => by
    unfold zwL
    by_cases hc : e ≤ k ∧ anyNZ (sec I k) = true
    · rw [if_pos hc, List.foldl_append, zwL_fold I e i s k]
      show (if k = i then zeros 512 else _) = _
      by_cases hk : k = i
      · subst hk
        rw [if_pos rfl, if_pos ⟨by omega, hc⟩]
      · rw [if_neg hk]
        by_cases h2 : i < k ∧ e ≤ i ∧ anyNZ (sec I i) = true
        · rw [if_pos h2, if_pos ⟨by omega, h2.2⟩]
        · rw [if_neg h2, if_neg (fun h3 => h2 ⟨by omega, h3.2⟩)]
    · rw [if_neg hc, zwL_fold I e i s k]
      by_cases h2 : i < k ∧ e ≤ i ∧ anyNZ (sec I i) = true
      · rw [if_pos h2, if_pos ⟨by omega, h2.2⟩]
      · rw [if_neg h2, if_neg]
        rintro ⟨h3, h4⟩
        by_cases hk : k = i
        · subst hk
          exact hc h4
        · exact h2 ⟨by omega, h4⟩
/-- The image behind opening. -/
def openD (I : List UInt8) (e n : Nat) : List UInt8 := I.take (e * 512) ++ zeros ((n - e) * 512)
theorem openD_length {I : List UInt8} {e n : Nat} (h : I.length = n * 512) (he : e ≤ n) : (openD I e n).length = n * 512 := by
  unfold openD
  rw [List.length_append, List.length_take, zeros_length, h]
  omega
theorem openD_sec {I : List UInt8} {e n i : Nat} (h : I.length = n * 512) (he : e ≤ n) (hi : i < n) : sec (openD I e n) i = if e ≤ i then zeros 512 else sec I i := by
  have hl : (I.take (e * 512)).length = e * 512 := by rw [List.length_take]; omega
  unfold openD sec
  by_cases hei : e ≤ i
  · rw [if_pos hei, List.drop_append, List.drop_eq_nil_of_le (by omega), List.nil_append, hl]
    rw [zeros_drop, zeros_take _ _ (by omega)]
  · rw [if_neg hei, List.drop_append_of_le_length (by omega), List.take_append_of_le_length (by rw [List.length_drop]; omega), List.drop_take, List.take_take, Nat.min_eq_left (by omega)]
theorem sec_ext {A B : List UInt8} {n : Nat} (hA : A.length = n * 512) (hB : B.length = n * 512) (h : ∀ i, i < n → sec A i = sec B i) : A = B := by
  apply List.ext_getElem?
  intro j
  by_cases hj : j < n * 512
  · have h1 := congrArg (fun l => l[j % 512]?) (h (j / 512) (by omega))
    simp only [sec_get] at h1
    rw [if_pos (by omega), if_pos (by omega), show j / 512 * 512 + j % 512 = j by omega] at h1
    exact h1
  · rw [List.getElem?_eq_none (by omega), List.getElem?_eq_none (by omega)]
/-- A disk's image behind opening. -/
theorem sync_open {D : List UInt8} {n e : Nat} (P : List (Nat × List UInt8)) (hD : D.length = n * 512) (hP : ∀ x ∈ P, x.1 < n ∧ x.2.length = 512) (he : e ≤ n) : syncD D (P ++ zwL (syncD D P) e n) = openD (syncD D P) e n := by
  have hPZ : ∀ x ∈ P ++ zwL (syncD D P) e n, x.1 < n ∧ x.2.length = 512 := fun x hx => by
    rcases List.mem_append.1 hx with hx | hx
    · exact hP x hx
    · have := zwL_mem n x hx
      exact ⟨this.1, by rw [this.2.2, zeros_length]⟩
  have hI := syncD_length P hD hP
  refine sec_ext (syncD_length _ hD hPZ) (openD_length hI he) fun i hi => ?_
  rw [openD_sec hI he hi, ← readP_sec _ hD hPZ i, readP_append, zwL_fold, readP_sec P hD hP i]
  by_cases h1 : e ≤ i
  · rw [if_pos h1]
    by_cases h2 : anyNZ (sec (syncD D P) i) = true
    · rw [if_pos ⟨hi, h1, h2⟩]
    · rw [if_neg (fun h => h2 h.2.2)]
      have := (anyNZ_iff (sec (syncD D P) i) 512 (sec_length hI hi))
      apply Classical.byContradiction
      intro hne
      exact h2 (this.2 hne)
  · rw [if_neg h1, if_neg (fun h => h1 h.2.1)]
/-- What the k-th sector reads as, while opening goes on. -/
theorem read_open {D : List UInt8} {n e : Nat} (P : List (Nat × List UInt8)) (hD : D.length = n * 512) (hP : ∀ x ∈ P, x.1 < n ∧ x.2.length = 512) (k : Nat) : readP D (P ++ zwL (syncD D P) e k) k = sec (syncD D P) k := by
  rw [readP_other, readP_sec P hD hP k]
  intro x hx
  have := (zwL_mem k x hx).1
  omega
theorem found_fin_le (D : List UInt8) : (found D).fin ≤ D.length / 512 := by
  have := foundK_fin D _ (Nat.le_refl (pcs D).length)
  rw [found_all] at this
  have := pcs_le D
  omega
theorem found_recs_le (D : List UInt8) : (found D).recs.length ≤ D.length / 512 := by
  have := foundK_recs D _ (Nat.le_refl (pcs D).length)
  rw [found_all] at this
  have := pcs_le D
  omega
end Go.Proofs.YtbbnjnpbaekfgaaM
/- The contract of a log's Open. -/
set_option linter.unusedVariables false
set_option linter.unusedSimpArgs false
namespace Go.Proofs.YtbbnjnpbaekfgaaM
open Go.RowKit
theorem open_nil (w : World) : Calls Try.prog 14 #[.pointer none] w fun e w' => e = .returned (.tuple #[.pointer none, .int .i64 1]) ∧ w = w' := by
  go_enter Try.func14, Try.ntmps14
  go_wp2
  go_ret2
  exact ⟨rfl, rfl⟩
theorem write_zero (B p g n : Nat) (v : Value) (D : List UInt8) (P : List (Nat × List UInt8)) (w : World) (h : DiskAt w B p g n v D P) (at_ : Nat) (hat : at_ < n) (hP : P.length < 100000) :
    Calls Try.prog 46 #[.pointer (some ⟨p, 0, none⟩), .int .i64 (at_ : Int), .slice none 0 0] w fun e w' => e = .returned (.int .i64 0) ∧ (∃ v', DiskAt w' B p g n v' D (P ++ [(at_, zeros 512)]) ∧ Fresh w v v') ∧ Elses (Own p g v) w w' :=
  write_ok B p g n v D P w h at_ hat (.slice none 0 0) [] ⟨none, 0, rfl, fun h => absurd h (by simp)⟩ (by simp) hP
/-- What Open leaves. -/
def Opened (w : World) (B p g n : Nat) (v : Value) (I : List UInt8) (e : Ending) (w' : World) : Prop :=
  ∃ vr v', e = .returned (.tuple #[.pointer (some ⟨w.heap.size, 0, none⟩), .int .i64 0]) ∧ LogAt w' B w.heap.size p g n v' vr (openD I (found I).fin n) [] (found I).recs (found I).recs.length (found I).fin ∧ Fresh w v v' ∧ (∀ k, vr.ownBlock = some k → w.heap.size ≤ k) ∧ Elses (Own p g v) w w'
set_option maxRecDepth 100000 in
set_option maxHeartbeats 4000000 in
theorem open_ok (B p g n : Nat) (v : Value) (D : List UInt8) (P : List (Nat × List UInt8)) (w : World) (h : DiskAt w B p g n v D P) (hP : P.length ≤ 50000) :
    Calls Try.prog 14 #[.pointer (some ⟨p, 0, none⟩)] w (Opened w B p g n v (syncD D P)) := by
  have hIl := syncD_length P h.len h.ok
  have hSO := fun e he => sync_open (e := e) P h.len h.ok he
  have hRO := fun e k => read_open (e := e) P h.len h.ok k
  obtain ⟨I, hI⟩ : ∃ I, I = syncD D P := ⟨_, rfl⟩
  rw [← hI] at hIl hSO hRO ⊢
  have HI := Lib.hid (And.intro hIl (And.intro hSO (And.intro hRO hI)))
  have hn := h.top
  have hn0 := h.pos
  have hbase := h.base
  have hfin : (found I).fin ≤ n := by have := found_fin_le I; omega
  have hrl : (found I).recs.length ≤ n := by have := found_recs_le I; omega
  obtain ⟨fi, hfi⟩ : ∃ fi, fi = (found I).fin := ⟨_, rfl⟩
  obtain ⟨rs, hrs⟩ : ∃ rs, rs = (found I).recs := ⟨_, rfl⟩
  rw [← hfi] at hfin
  rw [← hrs] at hrl
  have HFR := Lib.hid (And.intro hfi hrs)
  have hqB := Blk.new w [.pointer (some ⟨p, 0, none⟩), .slice none 0 0, .int .i64 0, .int .i64 0] 81
  have HD := Lib.hid (h.alloc (.cells #[.pointer (some ⟨p, 0, none⟩), .slice none 0 0, .int .i64 0, .int .i64 0] 81))
  have HQ := Lib.hid hqB
  have H := Lib.hid h
  clear h hqB hI hIl hSO hRO hfi hrs
  go_enter Try.func14, Try.ntmps14
  go_wp2_with fail
  refine (image_ok _ _ _ _ _ _ _ _ HD.out).mono ?_
  rintro e w1 ⟨iv, rfl, hov, hb1⟩
  rw [← HI.out.2.2.2] at hov
  obtain ⟨gi, ci, rfl⟩ := ownsRow_pos hov (by rw [HI.out.1]; omega)
  have hcap : I.length ≤ ci := by
    rcases hov.2 with ⟨e0, _⟩ | ⟨g', cap', cur, e0, _, _, hnc, _⟩
    · cases e0
    · cases e0; exact hnc
  have HSC := Lib.hid (scan_ok gi ci I (by rw [HI.out.1]; omega) hcap w1 (hov.lt gi rfl).2 fun j u hu => by
    have := hov.cells (g := gi) rfl j u hu
    rw [addr_add, Nat.zero_add] at this
    exact this)
  have HB1 := Lib.hid hb1
  clear hov hb1 hcap
  go_wp2_with fail
  refine HSC.out.mono ?_
  rintro e w2 ⟨vr, rfl, hrow, hb2⟩
  rw [← HFR.out.1]
  rw [← HFR.out.2] at hrow
  have hB2 : Below (w.heap.size + 1) (w.alloc (.cells #[.pointer (some ⟨p, 0, none⟩), .slice none 0 0, .int .i64 0, .int .i64 0] 81)) w2 := by
    have h1 := HB1.out
    simp only [World.size_alloc] at h1
    exact h1.trans (hb2.mono (by have := h1.size; simpa using this))
  have HB2 := Lib.hid hB2
  have hs1 : w.heap.size + 1 ≤ w1.heap.size := by have := HB1.out.size; simpa using this
  have HL2 := Lib.hid (show Blk w2 w.heap.size [.pointer (some ⟨p, 0, none⟩), .slice none 0 0, .int .i64 0, .int .i64 0] 81 from HQ.out.below hB2 (by omega))
  have HD2 := Lib.hid (HD.out.new (by simpa using hB2))
  have HR2 := Lib.hid hrow
  have c0 := HL2.out.cell 0
  have c1 := HL2.out.cell 1
  have c2 := HL2.out.cell 2
  have c3 := HL2.out.cell 3
  have f1 := HL2.out.frozen 1
  have f2 := HL2.out.frozen 2
  have f3 := HL2.out.frozen 3
  simp only [List.getElem?_cons_zero, List.getElem?_cons_succ] at c0 c1 c2 c3
  obtain ⟨ra, rc, rfl⟩ := len_of_own hrow
  have hq : w.heap.size < w2.heap.size := HL2.out.lt
  have hDq : ¬ Own p g v w.heap.size := not_own_type HD2.out HL2.out (by decide) (by decide) (by decide)
  have hRq : (Value.slice ra rs.length rc).ownBlock ≠ some w.heap.size := row_ne HR2.out HL2.out (by decide)
  have hE3 : Elses (fun k => k = w.heap.size) w2 (((w2.setCell ⟨w.heap.size, 1, none⟩ (.slice ra rs.length rc)).setCell ⟨w.heap.size, 3, none⟩ (.int .i64 (fi : Int))).setCell ⟨w.heap.size, 2, none⟩ (.int .i64 (rs.length : Int))) :=
    (((Elses.refl (fun k => k = w.heap.size) w2).set (p := ⟨w.heap.size, 1, none⟩) (.inl rfl) _).set (p := ⟨w.heap.size, 3, none⟩) (.inl rfl) _).set (p := ⟨w.heap.size, 2, none⟩) (.inl rfl) _
  have HL3 := Lib.hid (show LogAt (((w2.setCell ⟨w.heap.size, 1, none⟩ (.slice ra rs.length rc)).setCell ⟨w.heap.size, 3, none⟩ (.int .i64 (fi : Int))).setCell ⟨w.heap.size, 2, none⟩ (.int .i64 (rs.length : Int))) B w.heap.size p g n v (.slice ra rs.length rc) D P rs rs.length fi from
    { d := HD2.out.kept hE3 fun k hk e => hDq (e ▸ hk),
      l := by
        have := ((HL2.out.set 1 (.slice ra rs.length rc)).set 3 (.int .i64 (fi : Int))).set 2 (.int .i64 (rs.length : Int))
        simpa using this,
      r := ownsRow_kept (own_base HR2.out (by omega)) hE3 fun k hk e => hRq (e ▸ hk),
      bq := hbase, he := hfin, hs := Nat.le_refl _, few := by omega })
  have HRB := Lib.hid (show ∀ k, (Value.slice ra rs.length rc).ownBlock = some k → w.heap.size ≤ k from fun k hk => by have := (HR2.out.lt k hk).1; omega)
  have HE3 := Lib.hid (show Elses (Own p g v) w (((w2.setCell ⟨w.heap.size, 1, none⟩ (.slice ra rs.length rc)).setCell ⟨w.heap.size, 3, none⟩ (.int .i64 (fi : Int))).setCell ⟨w.heap.size, 2, none⟩ (.int .i64 (rs.length : Int))) from
    ((Elses.of_new (S := Own p g v) ((Below.refl w.heap.size w).alloc (Nat.le_refl _) (.cells #[.pointer (some ⟨p, 0, none⟩), .slice none 0 0, .int .i64 0, .int .i64 0] 81))).trans' (Elses.of_new (S := fun _ => False) (show Below _ _ w2 from by simpa using HB2.out)) fun i hi => hi.elim).trans' hE3 fun i hi => .inr (by omega))
  clear hrow hb2 hB2 hE3 hDq hRq
  go_wp2_with fail
  go_loopw [5] (fun iv wr => ∃ (k : Nat) (v' : Value), fi ≤ k ∧ k ≤ n ∧ iv = .int .i64 (k : Int) ∧ Hid (LogAt wr B w.heap.size p g n v' (.slice ra rs.length rc) D (P ++ zwL I fi k) rs rs.length fi) ∧ Hid (Fresh w v v') ∧ Hid (Elses (Own p g v) w wr)) (fun iv _ => n - (intOf iv).toNat)
  case atStart => exact ⟨fi, v, Nat.le_refl _, hfin, rfl, show LogAt _ _ _ _ _ _ _ _ _ _ _ _ _ by rw [zwL_below fi (Nat.le_refl _), List.append_nil]; exact HL3.out, Fresh.refl _ _, HE3.out⟩
  case round =>
    obtain ⟨k, v', hk0, hk, rfl, HL, HV, HE⟩ := hrel
    obtain ⟨wi, rfl⟩ : ∃ wi, wi = wr := ⟨wr, rfl⟩
    clear c0 c1 c2 c3 f1 f2 f3
    go_wp2_with fail
    refine (sectors p g n _ _ HL.out.d.blk hn0).mono ?_
    rintro e w' ⟨rfl, rfl⟩
    by_cases hlt : k < n
    · have hk' : (k : Int) < (n : Int) := by omega
      have hz := zwL_length (I := I) (e := fi) k
      have hPZ : (P ++ zwL I fi k).length < 100000 := by rw [List.length_append]; omega
      have HPZ := Lib.hid hPZ
      have hsl : (sec I k).length = 512 := sec_length HI.out.1 hlt
      have HSL := Lib.hid hsl
      clear hz hPZ hsl
      go_wp2_with fail
      refine (read_ok _ _ _ _ _ _ _ _ HL.out.d k hlt).mono ?_
      rintro e w3 ⟨rfl, hbr, hb3⟩
      rw [HI.out.2.2.1] at hbr
      have HLr := Lib.hid (HL.out.new hb3)
      have HEr := Lib.hid (HE.out.trans' (Elses.of_new (S := fun _ => False) hb3) fun i hi => hi.elim)
      have HCN := Lib.hid (show Calls Try.prog 47 #[.slice (some ⟨wi.heap.size, 0, none⟩) 512 512, .func (.func 48) #[] #[]] w3 fun e w' => e = .returned (.bool (anyNZ (sec I k))) ∧ w3 = w' from by
        have := contains_ok wi.heap.size 0 512 (sec I k) (by rw [HSL.out]; omega) w3 fun j u hu => by
          rw [hbr.cell, Nat.zero_add]
          exact hu
        rw [HSL.out] at this
        exact this)
      have HVr := Lib.hid (show Fresh w v v' from HV.out)
      have HS3 := Lib.hid hb3.size
      clear hbr hb3
      go_wp2_with fail
      refine HCN.out.mono ?_
      rintro e w' ⟨rfl, rfl⟩
      cases hz : anyNZ (sec I k)
      · have HZ := Lib.hid hz
        clear hz
        go_wp2_with fail
        go_roundw
        case rel => exact ⟨k + 1, v', by omega, by omega, by go_num, show LogAt _ _ _ _ _ _ _ _ _ _ _ _ _ by rw [zwL_no HZ.out]; exact HLr.out, HV.out, HEr.out⟩
        case measure => simp [intOf]; omega
      · have HZ := Lib.hid hz
        clear hz
        go_wp2_with fail
        refine (write_zero _ _ _ _ _ _ _ _ HLr.out.d k hlt HPZ.out).mono ?_
        rintro e w4 ⟨rfl, ⟨v2, hd4, hf4⟩, he4⟩
        have HW4 := Lib.hid (And.intro hd4 (And.intro hf4 he4))
        clear hd4 hf4 he4
        go_wp2_with fail
        go_roundw
        case rel =>
          refine ⟨k + 1, v2, by omega, by omega, by go_num, ?_, HV.out.trans HW4.out.2.1 HEr.out.size, ?_⟩
          · show LogAt _ _ _ _ _ _ _ _ _ _ _ _ _
            rw [zwL_yes hk0 HZ.out, ← List.append_assoc]
            exact HLr.out.disk HW4.out.1 HW4.out.2.2
          · refine HEr.out.trans' HW4.out.2.2 fun i hi => ?_
            rcases hi with rfl | rfl | hi
            · exact .inl (.inl rfl)
            · exact .inl (.inr (.inl rfl))
            · rcases HV.out with e1 | ⟨k1, hk1, e1⟩
              · exact .inl (.inr (.inr (e1 ▸ hi)))
              · rw [e1] at hi
                cases hi
                exact .inr hk1
        case measure => simp [intOf]; omega
    · have hk' : ¬ (k : Int) < (n : Int) := by omega
      obtain rfl : k = n := by omega
      go_wp2_with fail
      refine (sync_ok _ _ _ _ _ _ _ _ HL.out.d).mono ?_
      rintro e w4 ⟨rfl, ⟨v2, hd4, hv4⟩, he4⟩
      have HW4 := Lib.hid (And.intro hd4 (And.intro hv4 he4))
      clear hd4 hv4 he4
      go_wp2_with fail
      go_ret2
      have hd5 := HW4.out.1
      have e5 : crashK D (P ++ zwL I fi k) (fun _ => 512) (P ++ zwL I fi k).length = openD I fi k := HI.out.2.1 fi hfin
      rw [e5] at hd5
      refine ⟨.slice ra rs.length rc, v2, rfl, ?_, ?_, HRB.out, ?_⟩
      · rw [← HFR.out.1, ← HFR.out.2]
        exact HL.out.disk hd5 HW4.out.2.2
      · rcases HV.out with e1 | ⟨k1, hk1, e1⟩
        · exact .inl (HW4.out.2.1.trans e1)
        · exact .inr ⟨k1, hk1, HW4.out.2.1.trans e1⟩
      · refine HE.out.trans' HW4.out.2.2 fun i hi => ?_
        rcases hi with rfl | rfl | hi
        · exact .inl (.inl rfl)
        · exact .inl (.inr (.inl rfl))
        · rcases HV.out with e1 | ⟨k1, hk1, e1⟩
          · exact .inl (.inr (.inr (e1 ▸ hi)))
          · rw [e1] at hi
            cases hi
            exact .inr hk1
end Go.Proofs.YtbbnjnpbaekfgaaM
/- The plain theory of a log: what its disk holds, and what is found behind appends, a sync, a crash. -/
set_option linter.unusedVariables false
set_option linter.unusedSimpArgs false
namespace Go.Proofs.YtbbnjnpbaekfgaaM
theorem sec_cut (L b : List UInt8) (n x i : Nat) (hL : L.length = n * 512) (hx : x < n) (hb : b.length ≤ 512) : sec (splice L (x * 512) b) i = if x = i then b ++ (sec L i).drop b.length else sec L i := by
  apply List.ext_getElem?
  intro j
  rw [sec_get, splice_get _ _ _ _ (by omega)]
  by_cases e : x = i
  · subst e
    rw [if_pos rfl, List.getElem?_append]
    by_cases h1 : j < b.length
    · rw [if_pos (by omega), if_pos ⟨by omega, by omega⟩, if_pos h1]
      congr 1
      omega
    · rw [if_neg h1, List.getElem?_drop, sec_get]
      rw [show b.length + (j - b.length) = j by omega]
      by_cases h2 : j < 512
      · rw [if_pos h2, if_pos h2, if_neg (by omega)]
      · rw [if_neg h2, if_neg h2]
  · rw [if_neg e, sec_get]
    by_cases h2 : j < 512
    · rw [if_pos h2, if_pos h2, if_neg]
      rintro ⟨h3, h4⟩
      have : x ≤ i := by omega
      have : i ≤ x := by omega
      omega
    · rw [if_neg h2, if_neg h2]
/-- What the i-th sector of a log of these records holds. -/
def tgt (R : List (List UInt8)) (i : Nat) : List UInt8 := ((framesF 0 R)[i]?).getD (zeros 512)
theorem tgt_ge {R : List (List UInt8)} {i : Nat} (h : spanN R ≤ i) : tgt R i = zeros 512 := by
  unfold tgt
  rw [List.getElem?_eq_none (by rw [framesF_length]; exact h)]
  rfl
theorem tgt_get {R : List (List UInt8)} {i : Nat} (h : i < spanN R) : (framesF 0 R)[i]? = some (tgt R i) := by
  have hl : i < (framesF 0 R).length := by rw [framesF_length]; exact h
  unfold tgt
  rw [List.getElem?_eq_getElem hl]
  rfl
theorem tgt_append {R Q : List (List UInt8)} {i : Nat} (h : i < spanN R) : tgt (R ++ Q) i = tgt R i := by
  unfold tgt
  rw [framesF_append, List.getElem?_append_left (by rw [framesF_length]; exact h)]
theorem tgt_new {R : List (List UInt8)} {r : List UInt8} {j : Nat} (h : j < needN r.length) : tgt (R ++ [r]) (spanN R + j) = frameI (spanN R) r j := by
  unfold tgt
  rw [framesF_append, List.getElem?_append_right (by rw [framesF_length]; omega), framesF_length, Nat.add_sub_cancel_left, Nat.zero_add, framesF_one, frameS_get _ _ _ h]
  rfl
theorem tgt_sec {R : List (List UInt8)} {i : Nat} (h : i < spanN R) : ∃ l p, tgt R i = secF i l p ∧ p.length ≤ 493 := by
  obtain ⟨l, p, e, hp⟩ := framesF_get R 0 i _ (tgt_get h)
  exact ⟨l, p, by rw [e, Nat.zero_add], hp⟩
theorem tgt_length (R : List (List UInt8)) (i : Nat) : (tgt R i).length = 512 := by
  by_cases h : i < spanN R
  · obtain ⟨l, p, e, hp⟩ := tgt_sec h
    rw [e]
    exact secF_length _ _ _ hp
  · rw [tgt_ge (by omega), zeros_length]
theorem framesF_tgt (R : List (List UInt8)) : framesF 0 R = (List.range (spanN R)).map (tgt R) := by
  apply List.ext_getElem?
  intro i
  by_cases h : i < spanN R
  · rw [tgt_get h, List.getElem?_map, List.getElem?_range h]
    rfl
  · rw [List.getElem?_eq_none (by rw [framesF_length]; omega), List.getElem?_eq_none (by simp; omega)]
theorem spanN_take_le (R : List (List UInt8)) (s : Nat) : spanN (R.take s) ≤ spanN R := by
  have := spanN_append (R.take s) (R.drop s)
  rw [List.take_append_drop] at this
  omega
/-- A log's disk: R are its records, s of them are safe. -/
structure Good (n : Nat) (D : List UInt8) (P : List (Nat × List UInt8)) (R : List (List UInt8)) (s : Nat) : Prop where
  len : D.length = n * 512
  top : n ≤ 1024
  le : spanN R ≤ n
  sm : ∀ r ∈ R, r.length ≤ 4400
  hs : s ≤ R.length
  dur : ∀ i, i < n → sec D i = tgt (R.take s) i
  pen : P = (List.range (spanN R - spanN (R.take s))).map fun j => (spanN (R.take s) + j, tgt R (spanN (R.take s) + j))
theorem Good.new (n : Nat) (h : n ≤ 1024) : Good n (zeros (n * 512)) [] [] 0 where
  len := zeros_length _
  top := h
  le := Nat.zero_le _
  sm := fun r hr => absurd hr (by simp)
  hs := Nat.le_refl _
  dur := fun i hi => by
    rw [tgt_ge (Nat.zero_le _)]
    unfold sec
    rw [zeros_drop, zeros_take _ _ (by omega)]
  pen := rfl
theorem Good.append {n : Nat} {D : List UInt8} {P : List (Nat × List UInt8)} {R : List (List UInt8)} {s : Nat} (h : Good n D P R s) (r : List UInt8) (hr : r.length ≤ 4400) (hf : spanN R + needN r.length ≤ n) : Good n D (P ++ fwL (spanN R) r) (R ++ [r]) s where
  len := h.len
  top := h.top
  le := by rw [spanN_append]; simp only [spanN]; omega
  sm := fun x hx => by
    rcases List.mem_append.1 hx with hx | hx
    · exact h.sm x hx
    · rw [List.mem_singleton.1 hx]; exact hr
  hs := by rw [List.length_append]; have := h.hs; omega
  dur := fun i hi => by rw [List.take_append_of_le_length h.hs]; exact h.dur i hi
  pen := by
    have hle := spanN_take_le R s
    rw [List.take_append_of_le_length h.hs, spanN_append]
    simp only [spanN, Nat.add_zero]
    rw [show spanN R + needN r.length - spanN (R.take s) = (spanN R - spanN (R.take s)) + needN r.length by omega, List.range_add, List.map_append, List.map_map, h.pen]
    congr 1
    · apply List.map_congr_left
      intro j hj
      rw [List.mem_range] at hj
      rw [tgt_append (by omega)]
    · unfold fwL
      apply List.map_congr_left
      intro j hj
      rw [List.mem_range] at hj
      simp only [Function.comp]
      rw [show spanN (R.take s) + (spanN R - spanN (R.take s) + j) = spanN R + j by omega, tgt_new hj]
theorem Good.ok {n : Nat} {D : List UInt8} {P : List (Nat × List UInt8)} {R : List (List UInt8)} {s : Nat} (h : Good n D P R s) : ∀ x ∈ P, x.1 < n ∧ x.2.length = 512 := by
  intro x hx
  rw [h.pen] at hx
  obtain ⟨j, hj, rfl⟩ := List.mem_map.1 hx
  rw [List.mem_range] at hj
  have := h.le
  exact ⟨by show spanN (R.take s) + j < n; omega, tgt_length _ _⟩
theorem Good.plen {n : Nat} {D : List UInt8} {P : List (Nat × List UInt8)} {R : List (List UInt8)} {s : Nat} (h : Good n D P R s) : P.length = spanN R - spanN (R.take s) := by
  rw [h.pen]
  simp
/-- A sector behind a crash: so much of what was to be written, over noughts. -/
theorem Good.crash_sec {n : Nat} {D : List UInt8} {P : List (Nat × List UInt8)} {R : List (List UInt8)} {s : Nat} (h : Good n D P R s) (c : Nat → Nat) (hc : ∀ k, c k ≤ 512) (i : Nat) (hi : i < n) : ∀ k, k ≤ P.length →
    sec (crashK D P c k) i = if spanN (R.take s) ≤ i ∧ i < spanN (R.take s) + k then torn (tgt R i) (c (i - spanN (R.take s))) else sec D i
  | 0, _ => by rw [if_neg (by omega)]; rfl
  | k + 1, hk => by
    have hp := h.plen
    have hle := h.le
    have hg : P.getD k (0, []) = (spanN (R.take s) + k, tgt R (spanN (R.take s) + k)) := by
      rw [List.getD_eq_getElem?_getD, h.pen, List.getElem?_map, List.getElem?_range (by omega)]
      rfl
    unfold crashK
    rw [hg]
    show sec (splice (crashK D P c k) ((spanN (R.take s) + k) * 512) ((tgt R (spanN (R.take s) + k)).take (c k))) i = _
    rw [sec_cut _ _ n _ i (crashK_length P c h.len h.ok k (by omega)) (by omega) (by rw [List.length_take]; have := hc k; omega), Good.crash_sec h c hc i hi k (by omega)]
    by_cases e : spanN (R.take s) + k = i
    · rw [if_pos e, if_neg (by omega), if_pos (by omega), e, show i - spanN (R.take s) = k by omega, h.dur i hi, tgt_ge (R := R.take s) (i := i) (by omega)]
      unfold torn
      rw [List.length_take, tgt_length, Nat.min_eq_left (hc k), zeros_drop]
    · rw [if_neg e]
      by_cases h2 : spanN (R.take s) ≤ i ∧ i < spanN (R.take s) + k
      · rw [if_pos h2, if_pos (by omega)]
      · rw [if_neg h2, if_neg (by omega)]
/-- All sectors behind a crash. -/
theorem Good.crash_at {n : Nat} {D : List UInt8} {P : List (Nat × List UInt8)} {R : List (List UInt8)} {s : Nat} (h : Good n D P R s) (c : Nat → Nat) (hc : ∀ k, c k ≤ 512) (i : Nat) (hi : i < n) :
    sec (crashK D P c P.length) i = if i < spanN R then (if i < spanN (R.take s) then tgt R i else torn (tgt R i) (c (i - spanN (R.take s)))) else zeros 512 := by
  have hp := h.plen
  have hle := spanN_take_le R s
  rw [h.crash_sec c hc i hi P.length (Nat.le_refl _), hp]
  by_cases h1 : i < spanN R
  · rw [if_pos h1]
    by_cases h2 : i < spanN (R.take s)
    · rw [if_neg (by omega), if_pos h2, h.dur i hi]
      have := tgt_append (R := R.take s) (Q := R.drop s) h2
      rw [List.take_append_drop] at this
      exact this.symm
    · rw [if_pos (by omega), if_neg h2]
  · rw [if_neg (by omega), if_neg h1, h.dur i hi, tgt_ge (by omega)]
theorem torn_all {x : List UInt8} (h : x.length = 512) : torn x 512 = x := by
  unfold torn
  rw [List.take_of_length_le (by omega)]
  simp [zeros]
theorem Good.sync_at {n : Nat} {D : List UInt8} {P : List (Nat × List UInt8)} {R : List (List UInt8)} {s : Nat} (h : Good n D P R s) (i : Nat) (hi : i < n) : sec (syncD D P) i = tgt R i := by
  have := h.crash_at (fun _ => 512) (fun _ => Nat.le_refl _) i hi
  unfold syncD
  rw [this]
  by_cases h1 : i < spanN R
  · rw [if_pos h1, torn_all (tgt_length _ _)]
    simp
  · rw [if_neg h1, tgt_ge (by omega)]
theorem Good.sync {n : Nat} {D : List UInt8} {P : List (Nat × List UInt8)} {R : List (List UInt8)} {s : Nat} (h : Good n D P R s) : Good n (syncD D P) [] R R.length where
  len := syncD_length P h.len h.ok
  top := h.top
  le := h.le
  sm := h.sm
  hs := Nat.le_refl _
  dur := fun i hi => by rw [List.take_length]; exact h.sync_at i hi
  pen := by rw [List.take_length, Nat.sub_self]; rfl
theorem secs_of {D : List UInt8} {n : Nat} (h : D.length = n * 512) : secs D = (List.range n).map (sec D) := by
  unfold secs
  rw [show D.length / 512 = n by omega]
  rfl
/-- What is found in a disk of sectors of which some of the records' may not be whole. -/
theorem found_orBad {n : Nat} {D : List UInt8} {R : List (List UInt8)} (hD : D.length = n * 512) (hn : n ≤ 1024) (hR : spanN R ≤ n) (h1 : ∀ i, i < spanN R → sec D i = tgt R i ∨ readS i (sec D i) = none) (h2 : ∀ i, spanN R ≤ i → i < n → sec D i = zeros 512) :
    (found D).recs = R.take (wholeN 0 R ((List.range (spanN R)).map (sec D))) ∧ (found D).fin = spanN (R.take (wholeN 0 R ((List.range (spanN R)).map (sec D)))) := by
  have e : secs D = (List.range (spanN R)).map (sec D) ++ List.replicate (n - spanN R) (zeros 512) := by
    rw [secs_of hD]
    apply List.ext_getElem?
    intro i
    by_cases hi : i < spanN R
    · rw [List.getElem?_append_left (by simpa using hi), List.getElem?_map, List.getElem?_range (by omega), List.getElem?_map, List.getElem?_range hi]
    · rw [List.getElem?_append_right (by simp; omega)]
      by_cases hin : i < n
      · rw [List.getElem?_map, List.getElem?_range hin, List.getElem?_replicate, if_pos (by simp; omega)]
        show some (sec D i) = _
        rw [h2 i (by omega) hin]
      · rw [List.getElem?_eq_none (by simp; omega), List.getElem?_eq_none (by simp; omega)]
  have hob : OrBad 0 (framesF 0 R) ((List.range (spanN R)).map (sec D)) := by
    refine OrBad.of_get _ _ 0 (by rw [framesF_length]; simp) fun i x y hx hy => ?_
    have hi : i < spanN R := by rw [← framesF_length R 0]; exact (List.getElem?_eq_some_iff.1 hx).1
    rw [tgt_get hi] at hx
    rw [List.getElem?_map, List.getElem?_range hi] at hy
    cases hx
    cases hy
    rw [Nat.zero_add]
    exact h1 i hi
  have := scan_orBad R [] _ (List.replicate (n - spanN R) (zeros 512)) 0 hob fun s => by
    rw [Nat.zero_add]
    exact scan_zeros _ (by omega) _ _
  unfold found
  rw [e]
  simpa using this
theorem wholeN_prefix : ∀ (xs ys zs : List (List UInt8)) (a : Nat), zs.take (spanN xs) = framesF a xs → xs.length ≤ wholeN a (xs ++ ys) zs
  | [], ys, zs, a, _ => Nat.zero_le _
  | x :: xs, ys, zs, a, h => by
    unfold framesF spanN at h
    have hfl := frameS_length a x
    have h1 : zs.take (needN x.length) = frameS a x := by
      have e1 : (zs.take (needN x.length + spanN xs)).take (needN x.length) = zs.take (needN x.length) := by rw [List.take_take, Nat.min_eq_left (by omega)]
      rw [← e1, h, List.take_append_of_le_length (by omega), ← hfl, List.take_length]
    have h2 : (zs.drop (needN x.length)).take (spanN xs) = framesF (a + needN x.length) xs := by
      have e1 : (zs.take (needN x.length + spanN xs)).drop (needN x.length) = (zs.drop (needN x.length)).take (spanN xs) := by rw [List.drop_take, Nat.add_sub_cancel_left]
      rw [← e1, h, List.drop_append_of_le_length (by omega), List.drop_eq_nil_of_le (by omega), List.nil_append]
    show _ ≤ wholeN a (x :: (xs ++ ys)) zs
    unfold wholeN
    rw [if_pos h1]
    have := wholeN_prefix xs ys _ _ h2
    simp only [List.length_cons]
    omega
/-- The sectors of the whole records are as they should be. -/
theorem wholeN_take : ∀ (rs : List (List UInt8)) (a : Nat) (zs : List (List UInt8)), zs.take (spanN (rs.take (wholeN a rs zs))) = framesF a (rs.take (wholeN a rs zs))
  | [], a, zs => by simp [framesF, spanN]
  | r :: rs, a, zs => by
    unfold wholeN
    by_cases h : zs.take (needN r.length) = frameS a r
    · rw [if_pos h, List.take_succ_cons]
      show zs.take (needN r.length + spanN (rs.take _)) = frameS a r ++ framesF (a + needN r.length) (rs.take _)
      rw [List.take_add, h, wholeN_take rs]
    · rw [if_neg h]
      simp [framesF, spanN]
/-- What is found where all sectors are whole. -/
theorem Good.finds {n : Nat} {D : List UInt8} {P : List (Nat × List UInt8)} {R : List (List UInt8)} {s : Nat} (h : Good n D P R s) : (found (syncD D P)).recs = R ∧ (found (syncD D P)).fin = spanN R := by
  have hf := found_orBad (D := syncD D P) (syncD_length P h.len h.ok) h.top h.le (fun i hi => .inl (h.sync_at i (by have := h.le; omega))) fun i h1 h2 => by rw [h.sync_at i h2, tgt_ge h1]
  have hw : R.length ≤ wholeN 0 (R ++ []) ((List.range (spanN R)).map (sec (syncD D P))) := by
    refine wholeN_prefix R [] _ 0 ?_
    rw [List.take_of_length_le (by simp), framesF_tgt]
    apply List.map_congr_left
    intro i hi
    rw [List.mem_range] at hi
    exact h.sync_at i (by have := h.le; omega)
  rw [List.append_nil] at hw
  rw [List.take_of_length_le hw] at hf
  exact hf
/-- What is found behind a crash, and what opening makes of it. -/
theorem Good.crash {n : Nat} {D : List UInt8} {P : List (Nat × List UInt8)} {R : List (List UInt8)} {s : Nat} (h : Good n D P R s) (c : Nat → Nat) (hc : ∀ k, c k ≤ 512) :
    ∃ m, s ≤ m ∧ m ≤ R.length ∧ (found (crashK D P c P.length)).recs = R.take m ∧ (found (crashK D P c P.length)).fin = spanN (R.take m) ∧ Good n (openD (crashK D P c P.length) (spanN (R.take m)) n) [] (R.take m) m := by
  have hat := h.crash_at c hc
  have hle := h.le
  have hlen := crashK_length P c h.len h.ok _ (Nat.le_refl _)
  have hf := found_orBad (D := crashK D P c P.length) (R := R) hlen h.top hle (fun i hi => by
      rw [hat i (by omega), if_pos hi]
      by_cases h2 : i < spanN (R.take s)
      · rw [if_pos h2]; exact .inl rfl
      · rw [if_neg h2]
        obtain ⟨l, p, e, hp⟩ := tgt_sec hi
        have := torn_read i (by have := h.top; omega) l p hp (c (i - spanN (R.take s))) (hc _)
        rw [e]
        exact this)
    fun i h1 h2 => by rw [hat i h2, if_neg (by omega)]
  have hw : (R.take s).length ≤ wholeN 0 (R.take s ++ R.drop s) ((List.range (spanN R)).map (sec (crashK D P c P.length))) := by
    refine wholeN_prefix _ _ _ 0 ?_
    rw [framesF_tgt]
    apply List.ext_getElem?
    intro i
    have hsl := spanN_take_le R s
    by_cases hi : i < spanN (R.take s)
    · rw [List.getElem?_take, if_pos hi, List.getElem?_map, List.getElem?_range (by omega), List.getElem?_map, List.getElem?_range hi]
      show some (sec _ i) = some (tgt _ i)
      rw [hat i (by omega), if_pos (by omega), if_pos hi]
      have := tgt_append (R := R.take s) (Q := R.drop s) hi
      rw [List.take_append_drop] at this
      rw [this]
    · rw [List.getElem?_eq_none (by rw [List.length_take]; simp; omega), List.getElem?_eq_none (by simp; omega)]
  rw [List.take_append_drop, List.length_take, Nat.min_eq_left h.hs] at hw
  refine ⟨_, hw, wholeN_le R 0 _, hf.1, hf.2, ?_⟩
  obtain ⟨m, hm⟩ : ∃ m, m = wholeN 0 R ((List.range (spanN R)).map (sec (crashK D P c P.length))) := ⟨_, rfl⟩
  have hml : m ≤ R.length := by rw [hm]; exact wholeN_le R 0 _
  have hfr : (R.take m).length = m := by rw [List.length_take]; omega
  rw [← hm] at hf hw ⊢
  have hsp := spanN_take_le R m
  have htt : (R.take m).take m = R.take m := List.take_of_length_le (by rw [hfr]; exact Nat.le_refl _)
  refine ⟨openD_length hlen (by omega), h.top, by omega, fun r hr => h.sm r (List.mem_of_mem_take hr), by rw [hfr]; exact Nat.le_refl _, fun i hi => ?_, ?_⟩
  · rw [openD_sec hlen (by omega) hi, htt]
    by_cases hi2 : spanN (R.take m) ≤ i
    · rw [if_pos hi2, tgt_ge hi2]
    · rw [if_neg hi2]
      have ht := wholeN_take R 0 ((List.range (spanN R)).map (sec (crashK D P c P.length)))
      rw [← hm] at ht
      have h1 := congrArg (fun l => l[i]?) ht
      simp only [List.getElem?_take] at h1
      rw [if_pos (by omega), List.getElem?_map, List.getElem?_range (by omega), tgt_get (by omega)] at h1
      exact Option.some.inj h1
  · rw [htt, Nat.sub_self]
    rfl
end Go.Proofs.YtbbnjnpbaekfgaaM
/- The plain theory of a log: the chapter's examples. -/
set_option linter.unusedVariables false
set_option linter.unusedSimpArgs false
namespace Go.Proofs.YtbbnjnpbaekfgaaM
theorem crashK_congr {D : List UInt8} {P : List (Nat × List UInt8)} {c c' : Nat → Nat} : ∀ k, (∀ j, j < k → c j = c' j) → crashK D P c k = crashK D P c' k
  | 0, _ => rfl
  | k + 1, h => by
    unfold crashK
    rw [crashK_congr k fun j hj => h j (by omega), h k (by omega)]
theorem sync_none (D : List UInt8) : syncD D [] = D := rfl
theorem openD_zero (n : Nat) : openD (zeros (n * 512)) 0 n = zeros (n * 512) := by
  unfold openD
  simp
theorem found_zero {n : Nat} (h : n ≤ 1024) : (found (zeros (n * 512))).recs = [] ∧ (found (zeros (n * 512))).fin = 0 := (Good.new n h).finds
theorem torn_ne (a c : Nat) (l : Bool) (p : List UInt8) (hp : p.length ≤ 493) (ha : (a + 1) % 256 ≠ 0) (hc : c ≤ 511) : torn (secF a l p) c ≠ secF a l p := by
  intro e
  have h1 := congrArg (fun x => x[511]?) e
  have hl := secF_length a l p hp
  have h2 : (secF a l p)[511]? = some (UInt8.ofNat (a + 1)) := by
    have := congrArg (fun x => x[7]?) (secF_tail a l p hp)
    simp only [List.getElem?_drop] at this
    rw [this]
    simp [be]
  have h3 : (torn (secF a l p) c)[511]? = some 0 := by
    unfold torn
    rw [List.getElem?_append_right (by rw [List.length_take]; omega), List.length_take, hl]
    unfold zeros
    rw [List.getElem?_replicate, if_pos (by omega)]
  simp only [h2, h3, Option.some.injEq] at h1
  have := congrArg UInt8.toNat h1
  simp at this
  omega
def ra : List UInt8 := [97]
def rb : List UInt8 := [98]
/-- The examples' cuts. -/
def lc : Nat → Int
  | 0 => 0
  | 1 => 511
  | _ => 512
theorem lives_found {n : Nat} {D : List UInt8} {P : List (Nat × List UInt8)} (h : Good n D P [ra, rb] 1) (k : Nat) (hk : k < 3) : (found (crashK D P (cutN [lc k]) P.length)).recs = [ra, rb].take (1 + k / 2) := by
  have hpl : P.length = 1 := by
    have := h.plen
    exact this
  obtain ⟨m, h1, h2, hr, hf, hg⟩ := h.crash (cutN [lc k]) (cutN_le _)
  rw [hr]
  have hsp : spanN [ra, rb] = 2 := rfl
  have hn : 2 ≤ n := by have := h.le; rw [hsp] at this; exact this
  have h2' : m ≤ 2 := h2
  by_cases hk2 : k = 2
  · subst hk2
    have e : crashK D P (cutN [lc 2]) P.length = syncD D P := by
      unfold syncD
      refine crashK_congr _ fun j hj => ?_
      obtain rfl : j = 0 := by omega
      rfl
    have := h.finds.1
    rw [← e, hr] at this
    rw [this]
    rfl
  · have hm : m ≠ 2 := by
      rintro rfl
      have hd := hg.dur 1 (by omega)
      have hlen := crashK_length P (cutN [lc k]) h.len h.ok _ (Nat.le_refl _)
      rw [show spanN (List.take 2 [ra, rb]) = 2 from rfl, openD_sec hlen hn (by omega), if_neg (by omega), h.crash_at _ (cutN_le _) 1 (by omega), if_pos (by rw [hsp]; omega), if_neg (by show ¬ 1 < 1; omega)] at hd
      have e1 : tgt [ra, rb] 1 = secF 1 true rb := rfl
      rw [show List.take 2 (List.take 2 [ra, rb]) = [ra, rb] from rfl, e1] at hd
      refine torn_ne 1 _ true rb (by decide) (by decide) ?_ hd
      have : k = 0 ∨ k = 1 := by omega
      rcases this with rfl | rfl
      · exact (by decide : cutN [lc 0] (1 - spanN (List.take 1 [ra, rb])) ≤ 511)
      · exact (by decide : cutN [lc 1] (1 - spanN (List.take 1 [ra, rb])) ≤ 511)
    obtain rfl : m = 1 := by omega
    have : 1 + k / 2 = 1 := by omega
    rw [this]
end Go.Proofs.YtbbnjnpbaekfgaaM
/- The contract of outlawkit.Same over texts; logs with what their disks hold. -/
set_option linter.unusedVariables false
set_option linter.unusedSimpArgs false
namespace Go.Proofs.YtbbnjnpbaekfgaaM
open Go.RowKit
/-- The texts that a slice of them leads to. -/
def Texts (w : World) (v : Value) (l : List (List UInt8)) : Prop := ∃ a c, v = .slice a l.length c ∧ (0 < l.length → ∃ ad, a = some ad ∧ ad.block < w.heap.size ∧ ∀ j (h : j < l.length), w.cell? (ad.add j) = some (.string (bs l[j])))
theorem Texts.own {w : World} {B : Nat} {v : Value} {l : List (List UInt8)} (h : w.ownsRow B 9 1 v l.length (strs l)) : Texts w v l := by
  rcases h.2 with ⟨rfl, h0⟩ | ⟨g, cap, cur, rfl, hb, hg, r⟩
  · exact ⟨none, 0, by rw [h0], fun h1 => by omega⟩
  · exact ⟨_, cap, rfl, fun _ => ⟨_, rfl, (Array.getElem?_eq_some_iff.1 hg).1, fun j hj => h.cells (g := g) rfl j _ (strs_get l j hj)⟩⟩
theorem Texts.kept {w w' : World} {v : Value} {l : List (List UInt8)} {S : Nat → Prop} (h : Texts w v l) (hE : Elses S w w') (hS : ∀ k, v.ownBlock = some k → ¬ S k) : Texts w' v l := by
  obtain ⟨a, c, rfl, hh⟩ := h
  refine ⟨a, c, rfl, fun h0 => ?_⟩
  obtain ⟨ad, rfl, hl, hc⟩ := hh h0
  exact ⟨ad, rfl, Nat.lt_of_lt_of_le hl hE.size, fun j hj => by rw [hE.cell (p := ad.add j) (by rw [add_block]; exact hl) (by rw [add_block]; exact hS _ rfl)]; exact hc j hj⟩
theorem Texts.new {w w' : World} {v : Value} {l : List (List UInt8)} (h : Texts w v l) (hb : Below w.heap.size w w') : Texts w' v l := by
  obtain ⟨a, c, rfl, hh⟩ := h
  refine ⟨a, c, rfl, fun h0 => ?_⟩
  obtain ⟨ad, rfl, hl, hc⟩ := hh h0
  exact ⟨ad, rfl, Nat.lt_of_lt_of_le hl hb.size, fun j hj => by rw [hb.cell (p := ad.add j) (by rw [add_block]; exact hl)]; exact hc j hj⟩
theorem Texts.take {w : World} {a : Option Addr} {c : Nat} {l : List (List UInt8)} (h : Texts w (.slice a l.length c) l) (k c' : Nat) (hk : k ≤ l.length) : Texts w (.slice a k c') (l.take k) := by
  obtain ⟨a', c2, e, hh⟩ := h
  cases e
  refine ⟨a, c', by rw [List.length_take, Nat.min_eq_left hk], fun h0 => ?_⟩
  rw [List.length_take] at h0
  obtain ⟨ad, rfl, hl, hc⟩ := hh (by omega)
  refine ⟨ad, rfl, hl, fun j hj => ?_⟩
  rw [List.length_take] at hj
  rw [hc j (by omega), List.getElem_take]
set_option maxRecDepth 100000 in
set_option maxHeartbeats 1000000 in
theorem same_ok (v1 v2 : Value) (l1 l2 : List (List UInt8)) (w : World) (h1 : Texts w v1 l1) (h2 : Texts w v2 l2) (hl1 : l1.length ≤ 1000000) (hl2 : l2.length ≤ 1000000) :
    Calls Try.prog 27 #[v1, v2] w fun e w' => e = .returned (.bool (decide (l1 = l2))) ∧ Below w.heap.size w w' := by
  obtain ⟨a1, c1, rfl, hh1⟩ := h1
  obtain ⟨a2, c2, rfl, hh2⟩ := h2
  have HH := Lib.hid (And.intro hh1 hh2)
  clear hh1 hh2
  by_cases hl : l1.length = l2.length
  · have hb : ((l1.length : Int) != (l2.length : Int)) = false := by rw [bne_eq_false_iff_eq]; omega
    have hbn : (l1.length != l2.length) = false := by rw [bne_eq_false_iff_eq]; exact hl
    have HL := Lib.hid hl
    clear hl
    go_enter Try.func27, Try.ntmps27
    go_wp2_with fail
    go_loopw [5] (fun iv wr => ∃ k : Nat, k ≤ l1.length ∧ iv = .int .i64 (k : Int) ∧ Hid (l1.take k = l2.take k) ∧ Hid (Below w.heap.size w wr)) (fun iv _ => l1.length - (intOf iv).toNat)
    case atStart => exact ⟨0, Nat.zero_le _, rfl, show _ = _ by simp, Below.refl _ _⟩
    case round =>
      obtain ⟨k, hk, rfl, HT, HB⟩ := hrel
      by_cases hlt : k < l1.length
      · have hlt2 : k < l2.length := by rw [← HL.out]; exact hlt
        obtain ⟨ad1, rfl, b1, hc1⟩ := HH.out.1 (by omega)
        obtain ⟨ad2, rfl, b2, hc2⟩ := HH.out.2 (by omega)
        have k1 : wr.cell? (ad1.add k) = some (.string (bs l1[k])) := (HB.out.cell (p := ad1.add k) (by rw [add_block]; exact b1)).trans (hc1 k hlt)
        have k2 : wr.cell? (ad2.add k) = some (.string (bs l2[k])) := (HB.out.cell (p := ad2.add k) (by rw [add_block]; exact b2)).trans (hc2 k hlt2)
        obtain ⟨x1, e1⟩ : ∃ x, x = l1[k] := ⟨_, rfl⟩
        obtain ⟨x2, e2⟩ : ∃ x, x = l2[k] := ⟨_, rfl⟩
        rw [← e1] at k1
        rw [← e2] at k2
        have HX := Lib.hid (show (x1 = l1[k] ∧ x2 = l2[k]) from ⟨e1, e2⟩)
        have hk' : (k : Int) < (l1.length : Int) := by omega
        have hk2' : (k : Int) < (l2.length : Int) := by omega
        have hk0 : (0 : Int) ≤ (k : Int) := by omega
        clear hc1 hc2 b1 b2 e1 e2
        by_cases hx : x1 = x2
        · have hq : ((bs x1).toList == (bs x2).toList) = true := by rw [hx, beq_iff_eq]
          have HE := Lib.hid hx
          clear hx
          go_wp2_with fail
          go_quiet (fail)
          go_wp2_with fail
          go_roundw
          case rel => exact ⟨k + 1, by omega, by go_num, show _ = _ by rw [List.take_succ_eq_append_getElem hlt, List.take_succ_eq_append_getElem hlt2, HT.out, ← HX.out.1, ← HX.out.2, HE.out], show Below _ _ _ from below_drewN HB.out _⟩
          case measure => simp [intOf]; omega
        · have hq : ((bs x1).toList == (bs x2).toList) = false := by rw [beq_eq_false_iff_ne]; exact fun e => hx (bs_toList_inj e)
          have HE := Lib.hid hx
          clear hx
          go_wp2_with fail
          go_quiet (fail)
          go_wp2_with fail
          go_ret
          have : decide (l1 = l2) = false := by
            rw [decide_eq_false_iff_not]
            rintro rfl
            exact HE.out (HX.out.1.trans HX.out.2.symm)
          exact ⟨by rw [this]; rfl, below_drewN HB.out _⟩
      · have hk' : ¬ (k : Int) < (l1.length : Int) := by omega
        obtain rfl : k = l1.length := by omega
        go_wp2_with fail
        go_ret
        have : decide (l1 = l2) = true := by
          rw [decide_eq_true_eq]
          have h1 := HT.out
          rw [List.take_length, HL.out, List.take_length] at h1
          exact h1
        exact ⟨by rw [this]; rfl, HB.out⟩
  · have hb : ((l1.length : Int) != (l2.length : Int)) = true := by rw [bne_iff_ne]; omega
    have hbn : (l1.length != l2.length) = true := by rw [bne_iff_ne]; exact hl
    have HL := Lib.hid hl
    clear hl
    go_enter Try.func27, Try.ntmps27
    go_wp2_with fail
    go_ret
    have : decide (l1 = l2) = false := by
      rw [decide_eq_false_iff_not]
      rintro rfl
      exact HL.out rfl
    exact ⟨by rw [this]; rfl, Below.refl _ _⟩
/-- A log in memory, and what its disk holds: R are its records, s of them safe. -/
structure LogGood (w : World) (B q p g n : Nat) (v vr : Value) (D : List UInt8) (P : List (Nat × List UInt8)) (R : List (List UInt8)) (s : Nat) : Prop where
  l : LogAt w B q p g n v vr D P R s (spanN R)
  g : Good n D P R s
theorem LogGood.new {w w' : World} {B q p g n : Nat} {v vr : Value} {D : List UInt8} {P : List (Nat × List UInt8)} {R : List (List UInt8)} {s : Nat} (h : LogGood w B q p g n v vr D P R s) (hb : Below w.heap.size w w') : LogGood w' B q p g n v vr D P R s := ⟨h.l.new hb, h.g⟩
theorem LogGood.few {w : World} {B q p g n : Nat} {v vr : Value} {D : List UInt8} {P : List (Nat × List UInt8)} {R : List (List UInt8)} {s : Nat} (h : LogGood w B q p g n v vr D P R s) : P.length ≤ n ∧ R.length ≤ n := by
  have h1 := h.g.plen
  have h2 := h.g.le
  have h3 : ∀ R : List (List UInt8), R.length ≤ spanN R := by
    intro R
    induction R with
    | nil => exact Nat.le_refl _
    | cons r R ih => simp only [List.length_cons, spanN]; have := needN_pos r.length; omega
  have := h3 R
  omega
/-- A fresh disk, opened. -/
theorem open_new (B p g n : Nat) (v : Value) (w : World) (h : DiskAt w B p g n v (zeros (n * 512)) []) :
    Calls Try.prog 14 #[.pointer (some ⟨p, 0, none⟩)] w fun e w' => e = .returned (.tuple #[.pointer (some ⟨w.heap.size, 0, none⟩), .int .i64 0]) ∧ (∃ vr v', LogGood w' B w.heap.size p g n v' vr (zeros (n * 512)) [] [] 0 ∧ Fresh w v v' ∧ (∀ k, vr.ownBlock = some k → w.heap.size ≤ k)) ∧ Elses (Own p g v) w w' := by
  refine (open_ok B p g n v _ _ w h (by simp)).mono ?_
  rintro e w' ⟨vr, v', rfl, hl, hv, hr, he⟩
  rw [sync_none, (found_zero h.top).1, (found_zero h.top).2, openD_zero] at hl
  exact ⟨rfl, ⟨vr, v', ⟨hl, Good.new n h.top⟩, hv, hr⟩, he⟩
/-- A disk behind a crash, opened. -/
theorem open_crash (B p g n : Nat) (v : Value) (D : List UInt8) (P : List (Nat × List UInt8)) (R : List (List UInt8)) (s : Nat) (hg : Good n D P R s) (c : Nat → Nat) (hc : ∀ k, c k ≤ 512) (w : World) (h : DiskAt w B p g n v (crashK D P c P.length) []) :
    Calls Try.prog 14 #[.pointer (some ⟨p, 0, none⟩)] w fun e w' => e = .returned (.tuple #[.pointer (some ⟨w.heap.size, 0, none⟩), .int .i64 0]) ∧ (∃ m vr v', s ≤ m ∧ m ≤ R.length ∧ (found (crashK D P c P.length)).recs = R.take m ∧ (found (crashK D P c P.length)).fin = spanN (R.take m) ∧ LogGood w' B w.heap.size p g n v' vr (openD (crashK D P c P.length) (spanN (R.take m)) n) [] (R.take m) m ∧ Fresh w v v' ∧ (∀ k, vr.ownBlock = some k → w.heap.size ≤ k)) ∧ Elses (Own p g v) w w' := by
  refine (open_ok B p g n v _ _ w h (by simp)).mono ?_
  rintro e w' ⟨vr, v', rfl, hl, hv, hr, he⟩
  obtain ⟨m, h1, h2, h3, h4, h5⟩ := hg.crash c hc
  rw [sync_none, h3, h4] at hl
  have hm : (R.take m).length = m := by rw [List.length_take]; omega
  rw [hm] at hl
  exact ⟨rfl, ⟨m, vr, v', h1, h2, h3, h4, ⟨hl, h5⟩, hv, hr⟩, he⟩
theorem good_append (B q p g n : Nat) (v vr : Value) (D : List UInt8) (P : List (Nat × List UInt8)) (R : List (List UInt8)) (s : Nat) (w : World) (h : LogGood w B q p g n v vr D P R s) (r : List UInt8) (hr : r.length ≤ 4400) (hfit : spanN R + needN r.length ≤ n) :
    Calls Try.prog 15 #[.pointer (some ⟨q, 0, none⟩), .string (bs r)] w fun e' w' => e' = .returned (.int .i64 0) ∧ (∃ v' vr', LogGood w' B q p g n v' vr' D (P ++ fwL (spanN R) r) (R ++ [r]) s ∧ Fresh w v v' ∧ Fresh w vr vr') ∧ Elses (LOwn q p g v vr) w w' := by
  have hf := h.few
  have ht := h.g.top
  refine (lappend_ok B q p g n v vr D P R s _ w h.l r hr hfit (by omega) (by omega)).mono ?_
  rintro e w' ⟨rfl, ⟨v', vr', hl, h1, h2⟩, he⟩
  refine ⟨rfl, ⟨v', vr', ⟨?_, h.g.append r hr hfit⟩, h1, h2⟩, he⟩
  rw [spanN_append]
  simpa [spanN] using hl
theorem good_sync (B q p g n : Nat) (v vr : Value) (D : List UInt8) (P : List (Nat × List UInt8)) (R : List (List UInt8)) (s : Nat) (w : World) (h : LogGood w B q p g n v vr D P R s) :
    Calls Try.prog 21 #[.pointer (some ⟨q, 0, none⟩)] w fun e' w' => e' = .returned (.int .i64 0) ∧ (∃ v', LogGood w' B q p g n v' vr (syncD D P) [] R R.length ∧ v'.ownBlock = v.ownBlock) ∧ Elses (LOwn q p g v vr) w w' := by
  refine (lsync_ok B q p g n v vr D P R s _ w h.l).mono ?_
  rintro e w' ⟨rfl, ⟨v', hl, h1⟩, he⟩
  exact ⟨rfl, ⟨v', ⟨hl, h.g.sync⟩, h1⟩, he⟩
end Go.Proofs.YtbbnjnpbaekfgaaM
/- The contract of the law's first examples (lives): it says yes. -/
set_option linter.unusedVariables false
set_option linter.unusedSimpArgs false
namespace Go.Proofs.YtbbnjnpbaekfgaaM
open Go.RowKit
theorem new_4 (w : World) : Calls Try.prog 13 #[.int .i64 4] w fun e w' => e = .returned (.tuple #[.pointer (some ⟨w.heap.size + 1, 0, none⟩), .int .i64 0]) ∧
      DiskAt w' w.heap.size (w.heap.size + 1) w.heap.size 4 (.slice none 0 0) (zeros (4 * 512)) [] ∧ Below w.heap.size w w' := new_ok 4 (by decide) (by decide) w
theorem append_a (B q p g n : Nat) (v vr : Value) (D : List UInt8) (P : List (Nat × List UInt8)) (R : List (List UInt8)) (s : Nat) (w : World) (h : LogGood w B q p g n v vr D P R s) (hfit : spanN R + 1 ≤ n) :
    Calls Try.prog 15 #[.pointer (some ⟨q, 0, none⟩), .string ⟨#[97]⟩] w fun e' w' => e' = .returned (.int .i64 0) ∧ (∃ v' vr', LogGood w' B q p g n v' vr' D (P ++ fwL (spanN R) ra) (R ++ [ra]) s ∧ Fresh w v v' ∧ Fresh w vr vr') ∧ Elses (LOwn q p g v vr) w w' := good_append B q p g n v vr D P R s w h ra (by decide) hfit
theorem append_b (B q p g n : Nat) (v vr : Value) (D : List UInt8) (P : List (Nat × List UInt8)) (R : List (List UInt8)) (s : Nat) (w : World) (h : LogGood w B q p g n v vr D P R s) (hfit : spanN R + 1 ≤ n) :
    Calls Try.prog 15 #[.pointer (some ⟨q, 0, none⟩), .string ⟨#[98]⟩] w fun e' w' => e' = .returned (.int .i64 0) ∧ (∃ v' vr', LogGood w' B q p g n v' vr' D (P ++ fwL (spanN R) rb) (R ++ [rb]) s ∧ Fresh w v v' ∧ Fresh w vr vr') ∧ Elses (LOwn q p g v vr) w w' := good_append B q p g n v vr D P R s w h rb (by decide) hfit
theorem LogGood.step {a b : World} {B q p g n : Nat} {v vr : Value} {D : List UInt8} {P : List (Nat × List UInt8)} {R : List (List UInt8)} {s : Nat} (h : LogGood a B q p g n v vr D P R s) (he : Elses (LOwn q p g v vr) a b) : Below B a b := h.l.step he
theorem LogGood.blk {w : World} {B q p g n : Nat} {v vr : Value} {D : List UInt8} {P : List (Nat × List UInt8)} {R : List (List UInt8)} {s : Nat} (h : LogGood w B q p g n v vr D P R s) : Blk w q [.pointer (some ⟨p, 0, none⟩), vr, .int .i64 (s : Int), .int .i64 (spanN R : Int)] 81 := h.l.l
/-- Scan, of bytes that a call has given. -/
theorem scan_own (B : Nat) (iv : Value) (I : List UInt8) (w : World) (h : w.ownsRow B 5 1 iv I.length (byteCells I)) (h0 : 0 < I.length) (h1 : I.length ≤ 1000000) : Calls Try.prog 18 #[iv] w (ScanSays w I) := by
  obtain ⟨gi, ci, rfl⟩ := ownsRow_pos h h0
  have hcap : I.length ≤ ci := by
    rcases h.2 with ⟨e0, _⟩ | ⟨g', cap', cur, e0, _, _, hnc, _⟩
    · cases e0
    · cases e0; exact hnc
  exact scan_ok gi ci I h1 hcap w (h.lt gi rfl).2 fun j u hu => by
    have := h.cells (g := gi) rfl j u hu
    rw [addr_add, Nat.zero_add] at this
    exact this
theorem lc_get (k : Nat) (hk : k < 3) : ([.int .i64 0, .int .i64 511, .int .i64 512] : List Value)[k]? = some (.int .i64 (lc k)) := by
  have : k = 0 ∨ k = 1 ∨ k = 2 := by omega
  rcases this with rfl | rfl | rfl <;> rfl
set_option maxRecDepth 100000 in
set_option maxHeartbeats 4000000 in
theorem lives_ok (w : World) : Calls Try.prog 10 #[] w fun e w' => e = .returned (.bool true) ∧ Below w.heap.size w w' := by
  go_enter Try.func10, Try.ntmps10
  go_wp2_with fail
  go_loopw [1] (fun iv wr => ∃ k : Nat, k ≤ 3 ∧ iv = .int .i64 (k : Int) ∧ Hid (Below w.heap.size w wr)) (fun iv _ => 3 - (intOf iv).toNat)
  case atStart => exact ⟨0, by omega, rfl, Below.refl _ _⟩
  case round =>
    obtain ⟨k, hk, rfl, HW⟩ := hrel
    obtain ⟨wi, rfl⟩ : ∃ wi, wi = wr := ⟨wr, rfl⟩
    by_cases hlt : k < 3
    · have hk' : (k : Int) < 3 := by omega
      have hk0 : (0 : Int) ≤ (k : Int) := by omega
      have hws := HW.out.size
      go_wp2_with fail
      refine (new_4 _).mono ?_
      rintro e w1 ⟨rfl, hd1, hb1⟩
      have HB1 := Lib.hid (HW.out.trans (hb1.mono hws))
      have HD1 := Lib.hid hd1
      clear hb1 hd1
      go_wp2_with fail
      refine (open_new _ _ _ _ _ _ HD1.out).mono ?_
      rintro e w2 ⟨rfl, ⟨vr2, v2, hl2, _, _⟩, he2⟩
      have HB2 := Lib.hid (HB1.out.trans ((HD1.out.step he2).mono hws))
      have HL2 := Lib.hid hl2
      clear hl2 he2
      go_wp2_with fail
      refine (append_a _ _ _ _ _ _ _ _ _ _ _ _ HL2.out (by decide)).mono ?_
      rintro e w3 ⟨rfl, ⟨v3, vr3, hl3, _, _⟩, he3⟩
      have HB3 := Lib.hid (HB2.out.trans ((HL2.out.step he3).mono hws))
      have HL3 := Lib.hid hl3
      clear hl3 he3
      go_wp2_with fail
      refine (good_sync _ _ _ _ _ _ _ _ _ _ _ _ HL3.out).mono ?_
      rintro e w4 ⟨rfl, ⟨v4, hl4, _⟩, he4⟩
      have HB4 := Lib.hid (HB3.out.trans ((HL3.out.step he4).mono hws))
      have HL4 := Lib.hid hl4
      clear hl4 he4
      go_wp2_with fail
      refine (append_b _ _ _ _ _ _ _ _ _ _ _ _ HL4.out (by decide)).mono ?_
      rintro e w5 ⟨rfl, ⟨v5, vr5, hl5, _, _⟩, he5⟩
      have HB5 := Lib.hid (HB4.out.trans ((HL4.out.step he5).mono hws))
      obtain ⟨D5, P5, hl5'⟩ : ∃ D P, LogGood w5 wi.heap.size w1.heap.size (wi.heap.size + 1) wi.heap.size 4 v5 vr5 D P [ra, rb] 1 := ⟨_, _, hl5⟩
      have HL5 := Lib.hid hl5'
      clear hl5 hl5' he5
      have hcl := (Blk.new w5 [.int .i64 0, .int .i64 511, .int .i64 512] 3).cell k
      rw [lc_get k hlt] at hcl
      go_wp2_with fail
      have hcr := crash_new _ _ _ _ _ _ _ _ (HL5.out.l.d.alloc (.cells #[.int .i64 0, .int .i64 511, .int .i64 512] 3)) [lc k] (by simp)
      rw [World.size_alloc] at hcr
      refine hcr.mono ?_
      rintro e w6 ⟨rfl, ⟨v6, hd6, _⟩, he6⟩
      have HB6 := Lib.hid ((HB5.out.alloc HB5.out.size (.cells #[.int .i64 0, .int .i64 511, .int .i64 512] 3)).alloc (by have := HB5.out.size; simp; omega) (.cells ([lc k].map (Value.int .i64)).toArray 3) |>.trans ((((HL5.out.l.d.alloc (.cells #[.int .i64 0, .int .i64 511, .int .i64 512] 3)).alloc _).step he6).mono hws))
      have hfd := lives_found HL5.out.g k hlt
      obtain ⟨D6, hD6⟩ : ∃ D6, D6 = crashK D5 P5 (cutN [lc k]) P5.length := ⟨_, rfl⟩
      rw [← hD6] at hd6 hfd
      have HD6 := Lib.hid (And.intro hd6 hfd)
      have H6L := Lib.hid hd6.len
      clear hd6 hfd he6 hD6 hcr hcl
      go_wp2_with fail
      refine (image_ok _ _ _ _ _ _ _ _ HD6.out.1).mono ?_
      rintro e w7 ⟨iv, rfl, hov, hb7⟩
      rw [sync_none] at hov
      have HSC := Lib.hid (scan_own _ iv D6 w7 hov (by rw [H6L.out]; decide) (by rw [H6L.out]; decide))
      have HB7 := Lib.hid (HB6.out.trans (hb7.mono HB6.out.size))
      obtain ⟨gi, ci, rfl⟩ := ownsRow_pos hov (by rw [H6L.out]; decide)
      clear hov hb7
      go_wp2_with fail
      refine HSC.out.mono ?_
      rintro e w8 ⟨rv, rfl, hrow, hb8⟩
      rw [HD6.out.2] at hrow
      have HB8 := Lib.hid (HB7.out.trans (hb8.mono HB7.out.size))
      obtain ⟨rt, hrt⟩ : ∃ rt, rt = [ra, rb].take (1 + k / 2) := ⟨_, rfl⟩
      rw [← hrt] at hrow
      have HRT := Lib.hid hrt
      have HT8 := Lib.hid (Texts.own hrow)
      obtain ⟨ra8, rc8, rfl⟩ := len_of_own hrow
      clear hrt
      clear hrow hb8
      go_wp2_with fail
      have hT : Texts (w8.alloc (.cells #[.string ⟨#[97]⟩, .string ⟨#[98]⟩] 9)) (.slice (some ⟨w8.heap.size, 0, none⟩) [ra, rb].length 2) [ra, rb] := by
        refine ⟨_, 2, rfl, fun _ => ⟨_, rfl, by simp, fun j hj => ?_⟩⟩
        rw [addr_add, Nat.zero_add, (Blk.new w8 [.string ⟨#[97]⟩, .string ⟨#[98]⟩] 9).cell]
        have hj2 : j < 2 := hj
        have : j = 0 ∨ j = 1 := by omega
        rcases this with rfl | rfl <;> rfl
      have hT2 := hT.take (1 + k / 2) 2 (by show 1 + k / 2 ≤ 2; omega)
      rw [← HRT.out] at hT2
      refine (same_ok _ _ rt rt _ (HT8.out.new ((Below.refl _ _).alloc (Nat.le_refl _) _)) hT2 (by rw [HRT.out, List.length_take]; show min _ 2 ≤ _; omega) (by rw [HRT.out, List.length_take]; show min _ 2 ≤ _; omega)).mono ?_
      rintro e w9 ⟨rfl, hb9⟩
      have HB9 := Lib.hid ((HB8.out.alloc HB8.out.size (.cells #[.string ⟨#[97]⟩, .string ⟨#[98]⟩] 9)).trans (hb9.mono (by have := HB8.out.size; simp; omega)))
      rw [decide_eq_true (rfl : rt = rt)]
      clear hb9 hT hT2
      go_wp2_with fail
      go_roundw
      case rel => exact ⟨k + 1, by omega, by go_num, HB9.out⟩
      case measure => simp [intOf]; omega
    · have hk' : ¬ (k : Int) < 3 := by omega
      go_wp2_with fail
      go_ret
      exact ⟨rfl, HW.out⟩
end Go.Proofs.YtbbnjnpbaekfgaaM
