/- The law DiskSyncs, walked: it says yes. -/
import Derived.Test.YthienjmkagediaaE0
import Derived.Test.YthienjmkagediaaN2
import Derived.Test.YthienjmkagediaaD4
import Derived.Deep.DeepCutAuto
set_option linter.unusedVariables false
set_option linter.unusedSimpArgs false
namespace Go.Proofs.YthienjmkagediaaM
open Go.RowKit
theorem Chain.le {lo hi : Nat} {hs : List Hd} (h : Chain lo hs hi) : lo ≤ hi := by
  induction hs generalizing lo with
  | nil => exact h
  | cons x r ih => exact Nat.le_trans h.1 (Nat.le_trans h.2.1 (ih h.2.2))
theorem own_base_le {w : World} {B e size n : Nat} {v : Value} {xs : List Value} {lo hi : Nat} {hs : List Hd} (_ : w.ownsRow B e size v n xs) (h : Chain lo hs hi) : lo ≤ hi := h.le
theorem getElem_at {l : List ActD} {k : Nat} (h : k < l.length) : ∃ x, x = l[k] := ⟨_, rfl⟩
theorem Own_congr {p g : Nat} {v v' : Value} (h : v'.ownBlock = v.ownBlock) (k : Nat) : Own p g v' k ↔ Own p g v k := by
  unfold Own
  rw [h]
theorem crashK_congr {D : List UInt8} {P : List (Nat × List UInt8)} {c c' : Nat → Nat} : ∀ k, (∀ j, j < k → c j = c' j) → crashK D P c k = crashK D P c' k
  | 0, _ => rfl
  | k + 1, h => by
    unfold crashK
    rw [crashK_congr k fun j hj => h j (by omega), h k (by omega)]
theorem crashK_none {D : List UInt8} {P : List (Nat × List UInt8)} : ∀ k, crashK D P (cutN []) k = D
  | 0 => rfl
  | k + 1 => by
    unfold crashK
    rw [crashK_none k]
    show splice D _ (List.take 0 _) = D
    simp [splice]
def wholeL (k : Nat) : List Int := (List.range k).map fun (i : Nat) => 512 + (i : Int)
theorem dis_congr {p g p' g' : Nat} {v v' x x' : Value} (h : ∀ q, Own p g v q → ¬ Own p' g' v' q) (e : x.ownBlock = v.ownBlock) (e' : x'.ownBlock = v'.ownBlock) : ∀ q, Own p g x q → ¬ Own p' g' x' q := fun q a b => h q ((Own_congr e q).1 a) ((Own_congr e' q).1 b)
theorem dis_symm {p g p' g' : Nat} {v v' : Value} (h : ∀ q, Own p g v q → ¬ Own p' g' v' q) : ∀ q, Own p' g' v' q → ¬ Own p g v q := fun q a b => h q b a
theorem row_far {a b : World} {B p g n : Nat} {v : Value} {D : List UInt8} {P : List (Nat × List UInt8)} (h : DiskAt a B p g n v D P) (he : Elses (Own p g v) a b) {B' e size m : Nat} {u : Value} {xs : List Value} (ho : a.ownsRow B' e size u m xs) (h1 : e ≠ 66) (h2 : e ≠ 69) (h3 : e ≠ 71) : b.ownsRow B' e size u m xs := ownsRow_kept ho he (own_far h ho h1 h2 h3)
theorem wholeL_length (k : Nat) : (wholeL k).length = k := by simp [wholeL]
theorem wholeL_succ (k : Nat) : wholeL (k + 1) = wholeL k ++ [512 + (k : Int)] := by simp [wholeL, List.range_succ]
theorem wholeL_cut {k j : Nat} (h : j < k) : cutN (wholeL k) j = 512 := by
  unfold cutN wholeL
  rw [List.getElem?_map, List.getElem?_range h]
  show (if (512 + (j : Int)) ≤ 0 then 0 else if 512 ≤ (512 + (j : Int)) then 512 else (512 + (j : Int)).toNat) = _
  rw [if_neg (by omega), if_pos (by omega)]
theorem ints_own {w : World} {B : Nat} {v : Value} {l : List Int} (h : w.ownsRow B 3 1 v l.length (l.map (Value.int .i64))) : IntsAt w v l := by
  rcases h.2 with ⟨rfl, e0⟩ | ⟨g, cap, cur, rfl, _, hg, _⟩
  · exact ⟨none, 0, by rw [e0], fun h => by omega⟩
  · exact ⟨_, cap, rfl, fun _ => ⟨_, rfl, (Array.getElem?_eq_some_iff.1 hg).1, fun j hj => h.cells (g := g) rfl j _ (by rw [List.getElem?_map, List.getElem?_eq_getElem hj]; rfl)⟩⟩
theorem ints_whole {w : World} {B k : Nat} {v : Value} (h : w.ownsRow B 3 1 v k ((wholeL k).map (Value.int .i64))) : IntsAt w v (wholeL k) := ints_own (by rw [wholeL_length]; exact h)
theorem crash_whole (B p g n : Nat) (v : Value) (D : List UInt8) (P : List (Nat × List UInt8)) (w : World) (h : DiskAt w B p g n v D P) (B' : Nat) (u : Value) (ho : w.ownsRow B' 3 1 u P.length ((wholeL P.length).map (Value.int .i64))) (hl : P.length ≤ 40) :
    Calls Try.prog 16 #[.pointer (some ⟨p, 0, none⟩), u] w fun e w' => e = .returned (.int .i64 0) ∧ (∃ v', DiskAt w' B p g n v' (syncD D P) [] ∧ v'.ownBlock = v.ownBlock) ∧ Elses (Own p g v) w w' := by
  refine (crash_ok B p g n v D P w h u (wholeL P.length) (ints_whole ho) (fun a n c e => own_far h ho (by decide) (by decide) (by decide) a.block (by rw [e]; rfl)) (by rw [wholeL_length]; omega)).mono ?_
  rintro e w' ⟨h1, ⟨x, h2, h3⟩, h4⟩
  refine ⟨h1, ⟨x, ?_, h3⟩, h4⟩
  rw [crashK_congr (c' := fun _ => 512) P.length (fun j hj => wholeL_cut hj)] at h2
  exact h2
theorem crash_zero (B p g n : Nat) (v : Value) (D : List UInt8) (P : List (Nat × List UInt8)) (w : World) (h : DiskAt w B p g n v D P) :
    Calls Try.prog 16 #[.pointer (some ⟨p, 0, none⟩), .slice none 0 0] w fun e w' => e = .returned (.int .i64 0) ∧ (∃ v', DiskAt w' B p g n v' D [] ∧ v'.ownBlock = v.ownBlock) ∧ Elses (Own p g v) w w' := by
  refine (crash_none B p g n v D P w h).mono ?_
  rintro e w' ⟨h1, ⟨x, h2, h3⟩, h4⟩
  rw [crashK_none] at h2
  exact ⟨h1, ⟨x, h2, h3⟩, h4⟩
/-- The pointers of four disks. -/
def ptrs (p0 p1 p2 p3 : Nat) : List Value := [.pointer (some ⟨p0, 0, none⟩), .pointer (some ⟨p1, 0, none⟩), .pointer (some ⟨p2, 0, none⟩), .pointer (some ⟨p3, 0, none⟩)]
theorem ptr_cells {w : World} {B g c p0 p1 p2 p3 : Nat} (h : w.ownsRow B 26 1 (.slice (some ⟨g, 0, none⟩) 4 c) 4 (ptrs p0 p1 p2 p3)) :
    w.cell? ⟨g, 0, none⟩ = some (.pointer (some ⟨p0, 0, none⟩)) ∧ w.cell? ⟨g, 1, none⟩ = some (.pointer (some ⟨p1, 0, none⟩)) ∧ w.cell? ⟨g, 2, none⟩ = some (.pointer (some ⟨p2, 0, none⟩)) ∧ w.cell? ⟨g, 3, none⟩ = some (.pointer (some ⟨p3, 0, none⟩)) :=
  ⟨h.cellAt 0 (by decide), h.cellAt 1 (by decide), h.cellAt 2 (by decide), h.cellAt 3 (by decide)⟩
theorem new_8z (Z : List UInt8) (hZ : Z = zeros 4096) (w : World) : Calls Try.prog 10 #[.int .i64 8] w fun e w' => e = .returned (.tuple #[.pointer (some ⟨w.heap.size + 1, 0, none⟩), .int .i64 0]) ∧
      DiskAt w' w.heap.size (w.heap.size + 1) w.heap.size 8 (.slice none 0 0) Z [] ∧ Below w.heap.size w w' := hZ ▸ new_8 w
theorem times_8z (Z : List UInt8) (hZ : Z = zeros 4096) (w : World) : Calls Try.prog 21 #[.string ⟨#[0]⟩, .int .i64 4096] w fun e w' => e = .returned (.string (bs Z)) ∧ Below w.heap.size w w' := hZ ▸ times_4096 w
attribute [local go_sem ↓] exec_conv exec_same exec_bytes Go.wp_at_zero Go.wp_at_succ
attribute [local go_sem] via_same via_same_drew via_bytes
set_option maxRecDepth 100000 in
set_option maxHeartbeats 1600000 in
theorem diskSyncs (Z : List UInt8) (hZ : Z = zeros 4096) (a0 : Option Addr) (c0 : Nat) (l : List ActD) (w : World) (h0 : ActsAt w a0 l) (l0 : l.length ≤ 140737488351232) :
    Calls Try.prog 4 #[.slice a0 l.length c0] w fun e w' => e = .returned (.bool true) ∧ Below w.heap.size w w' := by
  have H := Lib.hid h0
  have HZ := Lib.hid hZ
  clear h0 hZ
  go_enter Try.func4, Try.ntmps4
  go_wp2_with fail
  refine (lives_yes _).mono ?_
  rintro e w1 ⟨rfl, hb1⟩
  have HB1 := Lib.hid hb1
  have HS1 := Lib.hid hb1.size
  clear hb1
  by_cases hlit : lightA l = true
  · have h40 : l.length ≤ 40 := by
      unfold lightA at hlit
      rw [Bool.and_eq_true] at hlit
      simpa using hlit.2
    have h600 : ∀ j (h : j < l.length), l[j].b.size ≤ 600 := fun j hj => by
      unfold lightA at hlit
      rw [Bool.and_eq_true, List.all_eq_true] at hlit
      have := hlit.1 _ (List.getElem_mem hj)
      rw [Bool.and_eq_true] at this
      simpa using this.1
    have HL := Lib.hid (And.intro h40 h600)
    clear h600
    go_wp2_with (go_at_call 20; refine (light_acts _ _ _ _ (H.out.below HB1.out (Nat.le_refl _)) l0).mono ?_; rintro e w' ⟨rfl, rfl⟩)
    clear hlit
    obtain ⟨i26, hi0, hz0, hz1, hz2⟩ := info_parts info26
    have HI := Lib.hid (And.intro hi0 (And.intro hz0 (And.intro hz1 hz2)))
    clear hi0 hz0 hz1 hz2
    go_loopw [3, 4] (fun dv iv wr => ∃ (k : Nat) (hs : List Hd), k ≤ 4 ∧ iv = .int .i64 (k : Int) ∧ hs.length = k ∧ Hid (∀ h ∈ hs, HdAt wr Z (actP 8 l) h) ∧ Hid (Chain w1.heap.size hs wr.heap.size) ∧ Hid (wr.ownsRow w1.heap.size 26 1 dv k (hs.map fun h => .pointer (some ⟨h.p, 0, none⟩))) ∧ Hid (Below w.heap.size w wr)) (fun _ iv _ => 4 - (intOf iv).toNat)
    case atStart => exact ⟨0, [], Nat.zero_le _, rfl, rfl, fun _ h => absurd h (by simp), Nat.le_refl _, World.ownsRow_nil _ _ _ _, HB1.out⟩
    case round =>
      obtain ⟨k, hs, hk, rfl, hkl, HH, HC, HO, HW⟩ := hrel
      have HKL := Lib.hid hkl
      clear hkl
      obtain ⟨wo, rfl⟩ : ∃ wo, wo = wr := ⟨wr, rfl⟩
      by_cases hlt : k < 4
      · have hk' : (k : Int) < 4 := by omega
        go_wp2_with fail
        refine (new_8z Z HZ.out _).mono ?_
        rintro e wn ⟨rfl, hdn, hbn⟩
        have HDn := Lib.hid (And.intro hdn hbn)
        have HWS := Lib.hid HW.out.size
        clear hdn hbn
        go_wp2_with fail
        go_loopw [7] (fun iv wi => ∃ (j : Nat) (v : Value), j ≤ l.length ∧ iv = .int .i64 (j : Int) ∧ Hid (DiskAt wi wo.heap.size (wo.heap.size + 1) wo.heap.size 8 v Z (actP 8 (l.take j))) ∧ Hid (Below wo.heap.size wo wi)) (fun iv _ => l.length - (intOf iv).toNat)
        case atStart => exact ⟨0, _, Nat.zero_le _, rfl, HDn.out.1, HDn.out.2⟩
        case round =>
          obtain ⟨j, v, hj, rfl, HD, HWi⟩ := hrel
          obtain ⟨wi, rfl⟩ : ∃ wi, wi = wr := ⟨wr, rfl⟩
          by_cases hlj : j < l.length
          · obtain ⟨bl, of, rfl, hbl, hc⟩ := H.out (by omega)
            obtain ⟨_, hca, hcb, _⟩ := hc j hlj
            obtain ⟨x, hx⟩ : ∃ x, x = l[j] := ⟨_, rfl⟩
            rw [← hx] at hca hcb
            obtain ⟨s, hs2⟩ : ∃ s, x.b = bs s := ⟨_, (bs_data _).symm⟩
            rw [hs2] at hcb
            have hs6 : s.length ≤ 600 := by
              have := HL.out.2 j hlj
              rw [← hx, hs2, bs_size] at this
              exact this
            have htake : actP 8 (l.take (j + 1)) = if x.b.size ≤ 512 then actP 8 (l.take j) ++ [(pickN x.at_ 8, pad x.b)] else actP 8 (l.take j) := by
              rw [actP_take 8 l j hlj, ← hx]
            rw [hs2, bs_size, pad_of] at htake
            have HX := Lib.hid (And.intro htake (And.intro hca (And.intro hcb hbl)))
            have hlen := actP_length 8 (l.take j)
            have hfew : (actP 8 (l.take j)).length < 100000 := by
              rw [List.length_take] at hlen
              omega
            have hj' : (j : Int) < (l.length : Int) := by omega
            have hj0 : (0 : Int) ≤ (j : Int) := by omega
            have hS0 : Below w.heap.size w wi.drew := (HW.out.trans (HWi.out.mono HWS.out)).drew
            have hcS1 : ∀ w' : World, Below w.heap.size w w' → w'.cell? ⟨bl, of + j * 4 + 1, none⟩ = some (.int .i64 x.at_) := fun w' hb => (hb.cell (p := ⟨bl, of + j * 4 + 1, none⟩) HX.out.2.2.2).trans HX.out.2.1
            have hcS2 : ∀ w' : World, Below w.heap.size w w' → w'.cell? ⟨bl, of + j * 4 + 2, none⟩ = some (.string (bs s)) := fun w' hb => (hb.cell (p := ⟨bl, of + j * 4 + 2, none⟩) HX.out.2.2.2).trans HX.out.2.2.1
            clear hc hca hcb hx hs2 htake hbl hlen
            go_wp2
            by_cases hs5 : s.length ≤ 512
            · go_region_held (fun w' => Below w.heap.size w w') (first | assumption | exact bw_keep (by assumption) (Nat.le_refl _) _) (first
                | (go_at_call 14; refine (pick_8 _ _).mono ?_; rintro e wa ⟨rfl, hba⟩; have HP := Lib.hid hba; have hSa : Below w.heap.size w wa := (by first | exact hS0.trans (hba.mono hS0.size) | exact (bw_keep hS0 (Nat.le_refl _) s).trans (hba.mono (bw_keep hS0 (Nat.le_refl _) s).size)); clear hba)
                | (go_at_call 11; (first
                  | (refine (write_ok _ _ _ _ _ _ _ _ ((HD.out.drew.new HP.out).new (bw_below wa s)) (pickN x.at_ 8) (pickN_lt _ (by decide)) _ s (bw_bytes wa s _) hs5 hfew).mono ?_; rintro e wb ⟨rfl, ⟨vb, hdb, _⟩, heb⟩; have HWb := Lib.hid (((HWi.out.drew.trans (HP.out.mono HWi.out.size)).trans ((bw_below wa s).mono (Nat.le_trans HWi.out.size HP.out.size))).trans (((HD.out.drew.new HP.out).new (bw_below wa s)).step heb)))
                  | (refine (write_ok _ _ _ _ _ _ _ _ ((HD.out.drew.new (bw_below wi.drew s)).new HP.out) (pickN x.at_ 8) (pickN_lt _ (by decide)) _ s ((bw_bytes wi.drew s _).below HP.out) hs5 hfew).mono ?_; rintro e wb ⟨rfl, ⟨vb, hdb, _⟩, heb⟩; have HWb := Lib.hid (((HWi.out.drew.trans ((bw_below wi.drew s).mono HWi.out.size)).trans (HP.out.mono (Nat.le_trans HWi.out.size (bw_below wi.drew s).size))).trans (((HD.out.drew.new (bw_below wi.drew s)).new HP.out).step heb)))); have HDb := Lib.hid hdb; have hSb : Below w.heap.size w wb := HW.out.trans (HWb.out.mono HWS.out); clear hdb heb))
              all_goals
                go_wp2
                go_roundw
                case rel => exact ⟨j + 1, vb, by omega, by go_num, show DiskAt _ _ _ _ _ _ _ _ by rw [HX.out.1, if_pos hs5]; exact HDb.out, show Below _ _ _ from HWb.out⟩
                case measure => simp [intOf]; omega
            · go_region_held (fun w' => Below w.heap.size w w') (first | assumption | exact bw_keep (by assumption) (Nat.le_refl _) _) (first
                | (go_at_call 14; refine (pick_8 _ _).mono ?_; rintro e wa ⟨rfl, hba⟩; have HP := Lib.hid hba; have hSa : Below w.heap.size w wa := (by first | exact hS0.trans (hba.mono hS0.size) | exact (bw_keep hS0 (Nat.le_refl _) s).trans (hba.mono (bw_keep hS0 (Nat.le_refl _) s).size)); clear hba)
                | (go_at_call 11; (first
                  | (refine (write_long _ _ _ _ _ ((HD.out.drew.new HP.out).new (bw_below wa s)).blk (by decide) (pickN x.at_ 8) (pickN_lt _ (by decide)) _ s.length _ (by omega)).mono ?_; rintro e w' ⟨rfl, rfl⟩; have HWb := Lib.hid ((HWi.out.drew.trans (HP.out.mono HWi.out.size)).trans ((bw_below wa s).mono (Nat.le_trans HWi.out.size HP.out.size))); have HDb := Lib.hid ((HD.out.drew.new HP.out).new (bw_below wa s)))
                  | (refine (write_long _ _ _ _ _ ((HD.out.drew.new (bw_below wi.drew s)).new HP.out).blk (by decide) (pickN x.at_ 8) (pickN_lt _ (by decide)) _ s.length _ (by omega)).mono ?_; rintro e w' ⟨rfl, rfl⟩; have HWb := Lib.hid ((HWi.out.drew.trans ((bw_below wi.drew s).mono HWi.out.size)).trans (HP.out.mono (Nat.le_trans HWi.out.size (bw_below wi.drew s).size))); have HDb := Lib.hid ((HD.out.drew.new (bw_below wi.drew s)).new HP.out)))))
              all_goals
                go_wp2
                go_roundw
                case rel => exact ⟨j + 1, _, by omega, by go_num, show DiskAt _ _ _ _ _ _ _ _ by rw [HX.out.1, if_neg hs5]; exact HDb.out, show Below _ _ _ from HWb.out⟩
                case measure => simp [intOf]; omega
          · have hj' : ¬ (j : Int) < (l.length : Int) := by omega
            obtain rfl : j = l.length := by omega
            go_wp2_with (at_builtin; refine wpList_append_own _ rfl _ _ 42 rfl w1.heap.size 26 i26 (.pointer none) 1 8 Try.underlying42 HI.out.1 HI.out.2.1 HI.out.2.2.1 HI.out.2.2.2 rfl (by decide) u3 k (hs.map fun h => .pointer (some ⟨h.p, 0, none⟩)) rfl ((own_below HO.out HWi.out).alloc _) ⟨wi.heap.size, 0, none⟩ 1 1 [.pointer (some ⟨wo.heap.size + 1, 0, none⟩)] rfl rfl (cell_one_new _ _ _) (by simp [Value.oneCell']) (by unfold maxLen; omega) (by omega) (by have := HS1.out; have := (own_below HO.out HWi.out).1; have := HD.out.base; have := HWi.out.size; have := HC.out; simp; exact Nat.le_trans (own_base_le HO.out HC.out) (by omega)) ?_; intro v' wz hown hgrow _)
            have hfarD := own_far (HD.out.alloc (.cells #[.pointer (some ⟨wo.heap.size + 1, 0, none⟩)] 26)) ((own_below HO.out HWi.out).alloc (.cells #[.pointer (some ⟨wo.heap.size + 1, 0, none⟩)] 26)) (by decide) (by decide) (by decide)
            have hE : Elses (fun q => u3.ownBlock = some q) wi wz := ((Elses.refl _ wi).alloc _).grown hgrow fun q hq => .inl hq
            have hwo : w1.heap.size ≤ wo.heap.size := own_base_le HO.out HC.out
            have hbase := (own_below HO.out HWi.out).lt
            have HZ := Lib.hid (show DiskAt wz wo.heap.size (wo.heap.size + 1) wo.heap.size 8 v Z (actP 8 l) by
              have := HD.out
              rw [List.take_length] at this
              exact this.kept hE fun q hq e => hfarD q e hq)
            have HHz := Lib.hid (show ∀ h ∈ hs, HdAt wz Z (actP 8 l) h from fun h hh => by
              have h1 := (HH.out h hh).kept HWi.out (HH.out h hh).2.2 (Nat.le_refl _)
              have h2 := own_far h1.1 (own_below HO.out HWi.out) (by decide) (by decide) (by decide)
              exact ⟨h1.1.kept hE fun q hq e => h2 q e hq, h1.2.1, Nat.le_trans h1.2.2 hE.size⟩)
            have HWz := Lib.hid (show Below w.heap.size w wz from (HW.out.trans (HWi.out.mono HWS.out)).trans ⟨hE.os, hE.tape, hE.output, hE.size, fun q hq => hE.block q (fun e => by have := (hbase q e).1; have := HS1.out; omega) (by have := HWi.out.size; have := HWS.out; omega)⟩)
            have HOz := Lib.hid hown
            have HTz := Lib.hid (show ∀ q, Own (wo.heap.size + 1) wo.heap.size v q → q < wi.heap.size from fun q hq => (HD.out.lt q hq).2)
            have HSz := Lib.hid hE.size
            have HSi := Lib.hid HWi.out.size
            clear hown hgrow hfarD hE hwo hbase
            go_wp2
            go_roundw
            case rel =>
              refine ⟨k + 1, hs ++ [⟨wo.heap.size, wo.heap.size + 1, wo.heap.size, v, wi.heap.size⟩], by omega, by go_num, by rw [List.length_append, HKL.out]; rfl, ?_, ?_, ?_, HWz.out⟩
              · show ∀ h ∈ _, _
                intro h hh
                rcases List.mem_append.1 hh with hh | hh
                · exact HHz.out h hh
                · obtain rfl := List.mem_singleton.1 hh
                  exact ⟨HZ.out, HTz.out, HSz.out⟩
              · exact (Chain.snoc (h := ⟨wo.heap.size, wo.heap.size + 1, wo.heap.size, v, wi.heap.size⟩) HC.out (Nat.le_refl _) HSi.out).mono HSz.out
              · show World.ownsRow _ _ _ _ _ _ _
                rw [List.map_append]
                exact HOz.out
            case measure => simp [intOf]; omega
      · have hk' : ¬ (k : Int) < 4 := by omega
        obtain rfl : k = 4 := by omega
        obtain ⟨h0, h1, h2, h3, rfl⟩ : ∃ h0 h1 h2 h3, hs = [h0, h1, h2, h3] := by
          have := HKL.out
          match hs, this with
          | [h0, h1, h2, h3], _ => exact ⟨h0, h1, h2, h3, rfl⟩
        obtain ⟨B0, p0, g0, v0, T0⟩ := h0
        obtain ⟨B1, p1, g1, v1, T1⟩ := h1
        obtain ⟨B2, p2, g2, v2, T2⟩ := h2
        obtain ⟨B3, p3, g3, v3, T3⟩ := h3
        obtain ⟨P, hP⟩ : ∃ P, P = actP 8 l := ⟨_, rfl⟩
        have hPl : P.length ≤ 40 := by rw [hP]; exact Nat.le_trans (actP_length 8 l) h40
        rw [← hP] at HH
        have hd0 := HH.out _ (List.mem_cons_self)
        have hd1 := HH.out _ (List.mem_cons_of_mem _ List.mem_cons_self)
        have hd2 := HH.out _ (List.mem_cons_of_mem _ (List.mem_cons_of_mem _ List.mem_cons_self))
        have hd3 := HH.out _ (List.mem_cons_of_mem _ (List.mem_cons_of_mem _ (List.mem_cons_of_mem _ List.mem_cons_self)))
        obtain ⟨c1, c2, c3, c4, c5, c6, c7, c8, c9⟩ := HC.out
        dsimp only at c1 c2 c3 c4 c5 c6 c7 c8
        have lo : ∀ {B p g T : Nat} {v : Value} {q : Nat}, HdAt wo Z P ⟨B, p, g, v, T⟩ → Own p g v q → B ≤ q ∧ q < T := fun h hq => ⟨(h.1.lt _ hq).1, h.2.1 _ hq⟩
        have dis01 : ∀ q, Own p0 g0 v0 q → ¬ Own p1 g1 v1 q := fun q a b => by have := (lo hd0 a).2; have := (lo hd1 b).1; omega
        have dis02 : ∀ q, Own p0 g0 v0 q → ¬ Own p2 g2 v2 q := fun q a b => by have := (lo hd0 a).2; have := (lo hd2 b).1; omega
        have dis03 : ∀ q, Own p0 g0 v0 q → ¬ Own p3 g3 v3 q := fun q a b => by have := (lo hd0 a).2; have := (lo hd3 b).1; omega
        have dis12 : ∀ q, Own p1 g1 v1 q → ¬ Own p2 g2 v2 q := fun q a b => by have := (lo hd1 a).2; have := (lo hd2 b).1; omega
        have dis13 : ∀ q, Own p1 g1 v1 q → ¬ Own p3 g3 v3 q := fun q a b => by have := (lo hd1 a).2; have := (lo hd3 b).1; omega
        have dis23 : ∀ q, Own p2 g2 v2 q → ¬ Own p3 g3 v3 q := fun q a b => by have := (lo hd2 a).2; have := (lo hd3 b).1; omega
        have HDIS := Lib.hid (And.intro dis01 (And.intro dis02 (And.intro dis03 (And.intro dis12 (And.intro dis13 dis23)))))
        have HB := Lib.hid (show w.heap.size ≤ B0 ∧ w.heap.size ≤ B1 ∧ w.heap.size ≤ B2 ∧ w.heap.size ≤ B3 from by have := HS1.out; omega)
        have HDD := Lib.hid (show DiskAt wo B0 p0 g0 8 v0 Z P ∧ DiskAt wo B1 p1 g1 8 v1 Z P ∧ DiskAt wo B2 p2 g2 8 v2 Z P ∧ DiskAt wo B3 p3 g3 8 v3 Z P from ⟨hd0.1, hd1.1, hd2.1, hd3.1⟩)
        clear dis01 dis02 dis03 dis12 dis13 dis23 lo hd0 hd1 hd2 hd3 c1 c2 c3 c4 c5 c6 c7 c8 c9 hP HH HC HL HKL
        obtain ⟨gd, cd0, rfl, _, _⟩ := HO.out.form (by omega)
        have HOd := Lib.hid (show wo.ownsRow w1.heap.size 26 1 (.slice (some ⟨gd, 0, none⟩) 4 cd0) 4 (ptrs p0 p1 p2 p3) from HO.out)
        have HPL := Lib.hid hPl
        have HWS := Lib.hid HW.out.size
        clear hPl
        go_upto_region 17 with fail
        go_cut [8, 9] (fun s8 s9 wx => s8 = .string (bs Z) ∧ s9 = .string (bs (syncD Z P)) ∧ Hid (Below wo.heap.size wo wx))
        case first =>
          have hcS : ∀ w' : World, Below wo.heap.size wo w' → w'.cell? ⟨gd, 0, none⟩ = some (.pointer (some ⟨p0, 0, none⟩)) := fun w' hb => (hb.cell (p := ⟨gd, 0, none⟩) (World.block_lt_of_cell? wo _ (ptr_cells HOd.out).1)).trans (ptr_cells HOd.out).1
          have hS0 : Below wo.heap.size wo wo := Below.refl _ _
          go_region_held (fun w' => Below wo.heap.size wo w') (first | assumption | exact hS0.drew) (first
            | (go_at_call 18; refine (durable_ok _ _ _ _ _ _ _ _ HDD.out.1.drew).mono ?_; rintro e we ⟨ve, rfl, hve, hbe⟩; have hSe : Below wo.heap.size wo we := hS0.drew.trans hbe; have hce := conv_own hve; have HVE := Lib.hid hve; clear hve hbe)
            | (go_at_call 19; refine (image_ok _ _ _ _ _ _ _ _ (HDD.out.1.new hSe)).mono ?_; rintro e wf ⟨vf, rfl, hvf, hbf⟩; have hSf : Below wo.heap.size wo wf := hSe.trans (hbf.mono hSe.size); have hcf := conv_own hvf; have hce2 := conv_own (own_below HVE.out hbf); clear hvf hbf))
          all_goals
            go_wp2
            go_meet
            case rel => exact ⟨rfl, rfl, hSf⟩
        case rest =>
          obtain ⟨rfl, rfl, HX⟩ := hcut
          obtain ⟨i3, hi30, hz30, hz31, hz32⟩ := info_parts info3
          have HI3 := Lib.hid (And.intro hi30 (And.intro hz30 (And.intro hz31 hz32)))
          clear hi30 hz30 hz31 hz32
          have HgL := Lib.hid (World.block_lt_of_cell? wo _ (ptr_cells HOd.out).1)
          go_wp2_with fail
          go_loopw [10, 11] (fun wv iv wr => ∃ k : Nat, k ≤ P.length ∧ iv = .int .i64 (k : Int) ∧ Hid (wr.ownsRow wo.heap.size 3 1 wv k ((wholeL k).map (Value.int .i64))) ∧ Hid (Below wo.heap.size wo wr)) (fun _ iv _ => P.length - (intOf iv).toNat)
          case atStart => exact ⟨0, Nat.zero_le _, rfl, World.ownsRow_nil _ _ _ _, HX.out⟩
          case round =>
            obtain ⟨k, hk3, rfl, HWV, HW3⟩ := hrel
            obtain ⟨wi, rfl⟩ : ∃ wi, wi = wr := ⟨wr, rfl⟩
            have hck : wi.cell? ⟨gd, 0, none⟩ = some (.pointer (some ⟨p0, 0, none⟩)) := (HW3.out.cell (p := ⟨gd, 0, none⟩) HgL.out).trans (ptr_cells HOd.out).1
            go_wp2_with fail
            refine (pending _ _ _ _ _ _ _ _ (HDD.out.1.new HW3.out)).mono ?_
            rintro e w' ⟨rfl, rfl⟩
            by_cases hlt3 : k < P.length
            · have hlt3' : (k : Int) < (P.length : Int) := by omega
              have hk40 : k ≤ 40 := by have := HPL.out; omega
              clear hck
              go_wp2_with (at_builtin; refine wpList_append_own _ rfl _ _ 23 rfl wo.heap.size 3 i3 (.int .i64 0) 1 8 Try.underlying23 HI3.out.1 HI3.out.2.1 HI3.out.2.2.1 HI3.out.2.2.2 rfl (by decide) u10 k ((wholeL k).map (Value.int .i64)) rfl (HWV.out.alloc _) ⟨wi.heap.size, 0, none⟩ 1 1 [.int .i64 (512 + (k : Int))] rfl rfl (cell_one_new _ _ _) (by simp [Value.oneCell']) (by unfold maxLen; omega) (by omega) (by have := HW3.out.size; simp; omega) ?_; intro v' wz hown hgrow _)
              have HWz := Lib.hid (show Below wo.heap.size wo wz from (HW3.out.alloc HW3.out.size (.cells #[.int .i64 (512 + (k : Int))] 3)).grown hgrow (by have := HW3.out.size; simp; omega) fun q hq => (HWV.out.lt q hq).1)
              have HOz := Lib.hid hown
              clear hown hgrow
              go_wp2
              go_roundw
              case rel => exact ⟨k + 1, by omega, by go_num, show World.ownsRow _ _ _ _ _ _ _ by rw [wholeL_succ, List.map_append]; exact HOz.out, HWz.out⟩
              case measure => simp [intOf]; omega
            · have hlt3' : ¬ (k : Int) < (P.length : Int) := by omega
              obtain rfl : k = P.length := by omega
              obtain ⟨d0, d1, d2, d3⟩ := HDD.out
              have hea' := (HW.out.trans (HW3.out.mono HWS.out))
              have HDi := Lib.hid (And.intro (d0.new HW3.out) (And.intro (d1.new HW3.out) (And.intro (d2.new HW3.out) (And.intro (d3.new HW3.out) (And.intro (own_below HOd.out HW3.out) hea')))))
              clear d0 d1 d2 d3 hea'
              go_wp2_with fail
              refine (sync_ok _ _ _ _ _ _ _ _ HDi.out.1).mono ?_
              rintro e wa ⟨rfl, ⟨x0, hx0, e0⟩, he⟩
              obtain ⟨s01, s02, s03, s12, s13, s23⟩ := HDIS.out
              obtain ⟨d0, d1, d2, d3, ho, hb⟩ := HDi.out
              have HWa := Lib.hid (row_far d0 he HWV.out (by decide) (by decide) (by decide))
              have HDa := Lib.hid (And.intro (show DiskAt wa B0 p0 g0 8 x0 (syncD Z P) [] from hx0) (And.intro (d1.kept he (dis_symm s01)) (And.intro (d2.kept he (dis_symm s02)) (And.intro (d3.kept he (dis_symm s03)) (And.intro (row_far d0 he ho (by decide) (by decide) (by decide)) (hb.trans ((d0.step he).mono HB.out.1)))))))
              have HSa := Lib.hid (And.intro (dis_congr s01 e0 rfl) (And.intro (dis_congr s02 e0 rfl) (And.intro (dis_congr s03 e0 rfl) (And.intro s12 (And.intro s13 s23)))))
              clear d0 d1 d2 d3 ho hb he hx0 e0 s01 s02 s03 s12 s13 s23 hck HDi
              have hca := (ptr_cells HDa.out.2.2.2.2.1).2.1
              go_wp2_with fail
              refine (crash_whole _ _ _ _ _ _ _ _ HDa.out.2.1 _ _ HWa.out HPL.out).mono ?_
              rintro e wb ⟨rfl, ⟨x1, hx1, e1⟩, he⟩
              obtain ⟨s01, s02, s03, s12, s13, s23⟩ := HSa.out
              obtain ⟨d0, d1, d2, d3, ho, hb⟩ := HDa.out
              have HDb := Lib.hid (And.intro (d0.kept he s01) (And.intro (show DiskAt wb B1 p1 g1 8 x1 (syncD Z P) [] from hx1) (And.intro (d2.kept he (dis_symm s12)) (And.intro (d3.kept he (dis_symm s13)) (And.intro (row_far d1 he ho (by decide) (by decide) (by decide)) (hb.trans ((d1.step he).mono HB.out.2.1)))))))
              have HSb := Lib.hid (And.intro (dis_congr s01 rfl e1) (And.intro s02 (And.intro s03 (And.intro (dis_congr s12 e1 rfl) (And.intro (dis_congr s13 e1 rfl) s23)))))
              clear d0 d1 d2 d3 ho hb he hx1 e1 s01 s02 s03 s12 s13 s23 hca HDa HSa HWa
              have hcb := (ptr_cells HDb.out.2.2.2.2.1).2.2.1
              go_wp2_with fail
              refine (crash_zero _ _ _ _ _ _ _ _ HDb.out.2.2.1).mono ?_
              rintro e wd ⟨rfl, ⟨x2, hx2, e2⟩, he⟩
              obtain ⟨s01, s02, s03, s12, s13, s23⟩ := HSb.out
              obtain ⟨d0, d1, d2, d3, ho, hb⟩ := HDb.out
              have HDd := Lib.hid (And.intro (d0.kept he s02) (And.intro (d1.kept he s12) (And.intro (show DiskAt wd B2 p2 g2 8 x2 Z [] from hx2) (And.intro (d3.kept he (dis_symm s23)) (And.intro (row_far d2 he ho (by decide) (by decide) (by decide)) (hb.trans ((d2.step he).mono HB.out.2.2.1)))))))
              have HSd := Lib.hid (And.intro s03 (And.intro s13 (dis_congr s23 e2 rfl)))
              clear d0 d1 d2 d3 ho hb he hx2 e2 s01 s02 s03 s12 s13 s23 hcb HDb HSb
              have hcd := (ptr_cells HDd.out.2.2.2.2.1).2.2.2
              go_wp2_with fail
              refine (sync_ok _ _ _ _ _ _ _ _ HDd.out.2.2.2.1).mono ?_
              rintro e we ⟨rfl, ⟨x3, hx3, e3⟩, he⟩
              obtain ⟨s03, s13, s23⟩ := HSd.out
              obtain ⟨d0, d1, d2, d3, ho, hb⟩ := HDd.out
              have HDe := Lib.hid (And.intro (d0.kept he s03) (And.intro (d1.kept he s13) (And.intro (d2.kept he s23) (And.intro (show DiskAt we B3 p3 g3 8 x3 (syncD Z P) [] from hx3) (And.intro (row_far d3 he ho (by decide) (by decide) (by decide)) (hb.trans ((d3.step he).mono HB.out.2.2.2)))))))
              have HSe := Lib.hid (And.intro (dis_congr s03 rfl e3) (And.intro (dis_congr s13 rfl e3) (dis_congr s23 rfl e3)))
              clear d0 d1 d2 d3 ho hb he hx3 e3 s03 s13 s23 hcd HDd HSd
              have hce := (ptr_cells HDe.out.2.2.2.2.1).2.2.2
              go_wp2_with fail
              refine (crash_new _ _ _ _ _ _ _ _ HDe.out.2.2.2.1 [1, 2, 3] (by decide)).mono ?_
              rintro e wf ⟨rfl, ⟨y3, hy3, e3⟩, he⟩
              obtain ⟨s03, s13, s23⟩ := HSe.out
              obtain ⟨d0, d1, d2, d3, ho, hb⟩ := HDe.out
              have HDf := Lib.hid (And.intro ((d0.alloc _).kept he s03) (And.intro ((d1.alloc _).kept he s13) (And.intro ((d2.alloc _).kept he s23) (And.intro (show DiskAt wf B3 p3 g3 8 y3 (syncD Z P) [] from hy3) (And.intro (row_far (d3.alloc _) he (ho.alloc _) (by decide) (by decide) (by decide)) ((hb.alloc hb.size _).trans (((d3.alloc _).step he).mono HB.out.2.2.2)))))))
              clear d0 d1 d2 d3 ho hb he hy3 e3 s03 s13 s23 hce HDe HSe
              have HgF := Lib.hid (World.block_lt_of_cell? wf _ (ptr_cells HDf.out.2.2.2.2.1).1)
              have HB0 := Lib.hid (Below.refl wf.heap.size wf)
              have hc0 := (ptr_cells HDf.out.2.2.2.2.1).1
              go_wp2_with fail
              refine (durable_ok _ _ _ _ _ _ _ _ (HDf.out.1.new HB0.out)).mono ?_
              rintro e z1 ⟨y, rfl, hy, hb⟩
              have hv1 := conv_own hy
              have HB1 := Lib.hid (HB0.out.trans (hb.mono HB0.out.size))
              clear hy hb hc0
              have hc1 := (HB1.out.cell (p := ⟨gd, 1, none⟩) HgF.out).trans (ptr_cells HDf.out.2.2.2.2.1).2.1
              go_wp2_with fail
              refine (durable_ok _ _ _ _ _ _ _ _ (HDf.out.2.1.new HB1.out)).mono ?_
              rintro e z2 ⟨y, rfl, hy, hb⟩
              have hv2 := conv_own hy
              have HB2 := Lib.hid (HB1.out.trans (hb.mono HB1.out.size))
              clear hy hb hc1
              have hc2 := (HB2.out.cell (p := ⟨gd, 2, none⟩) HgF.out).trans (ptr_cells HDf.out.2.2.2.2.1).2.2.1
              go_wp2_with fail
              refine (durable_ok _ _ _ _ _ _ _ _ (HDf.out.2.2.1.new HB2.out)).mono ?_
              rintro e z3 ⟨y, rfl, hy, hb⟩
              have hv3 := conv_own hy
              have HB3 := Lib.hid (HB2.out.trans (hb.mono HB2.out.size))
              clear hy hb hc2
              have hc3 := (HB3.out.cell (p := ⟨gd, 2, none⟩) HgF.out).trans (ptr_cells HDf.out.2.2.2.2.1).2.2.1
              go_wp2_with fail
              refine (image_ok _ _ _ _ _ _ _ _ (HDf.out.2.2.1.new HB3.out)).mono ?_
              rintro e z4 ⟨y, rfl, hy, hb⟩
              rw [show syncD Z [] = Z from rfl] at hy
              have hv4 := conv_own hy
              have HB4 := Lib.hid (HB3.out.trans (hb.mono HB3.out.size))
              clear hy hb hc3
              have hc4 := (HB4.out.cell (p := ⟨gd, 3, none⟩) HgF.out).trans (ptr_cells HDf.out.2.2.2.2.1).2.2.2
              go_wp2_with fail
              refine (image_ok _ _ _ _ _ _ _ _ (HDf.out.2.2.2.1.new HB4.out)).mono ?_
              rintro e z5 ⟨y, rfl, hy, hb⟩
              rw [show syncD (syncD Z P) [] = syncD Z P from rfl] at hy
              have hv5 := conv_own hy
              have HB5 := Lib.hid (HB4.out.trans (hb.mono HB4.out.size))
              clear hy hb hc4
              have hc5 := (HB5.out.cell (p := ⟨gd, 3, none⟩) HgF.out).trans (ptr_cells HDf.out.2.2.2.2.1).2.2.2
              clear hc5
              go_wp2_with fail
              refine (times_8z Z HZ.out _).mono ?_
              rintro e z6 ⟨rfl, hb6⟩
              have HB6 := Lib.hid (HB5.out.trans (hb6.mono HB5.out.size))
              clear hb6
              go_wp2_with fail
              go_ret
              exact ⟨rfl, HDf.out.2.2.2.2.2.trans (HB6.out.mono HDf.out.2.2.2.2.2.size)⟩
  · have hlf : lightA l = false := by simpa using hlit
    clear hlit
    go_wp2_with (go_at_call 20; refine (light_acts _ _ _ _ (H.out.below HB1.out (Nat.le_refl _)) l0).mono ?_; rintro e w' ⟨rfl, rfl⟩)
    go_ret
    exact ⟨rfl, HB1.out⟩
theorem diskSyncs_walk (a0 : Option Addr) (l : List ActD) (c0 : Nat) (w : World) (h0 : ActsAt w a0 l) (_ : a0 = none → c0 = 0) (l0 : l.length ≤ 140737488351232) :
    Calls Try.prog 4 #[.slice a0 l.length c0] w fun e w' => e = .returned (.bool true) ∧ Below w.heap.size w w' := diskSyncs _ rfl a0 c0 l w h0 l0
end Go.Proofs.YthienjmkagediaaM
