import Derived.Test.YtcllkemhlhbdgaaK9c2bc3f5
import Derived.Test.YtcllkemhlhbdgaaKa1f4e442
import Derived.Test.YtcllkemhlhbdgaaK58bd07e8
import Derived.Laws.EntriesVeiled
namespace Go.Proofs.Ytcllkemhlhbdgaa.G
open Go.RowKit Go.Proofs.YtcllkemhlhbdgaaW.PrintWords Go.Proofs.YtcllkemhlhbdgaaW.PrintLast Go.Proofs.YtcllkemhlhbdgaaW.PrintMore
attribute [local go_sem] max2_int min2_int max_two min_two max_three min_three max_four min_four
set_option linter.unusedVariables false
set_option linter.unusedSimpArgs false
mutual
def spec_l1Method.j0 : Nat → Bool → List (S_impl_Method) → Int → Int → List (S_impl_Op) → Option (Bool)
  | 0, _, _, _, _, _ => none
  | k + 1, x23, x102000, x103000, x103001, x103002 => if x23 = true then (some false) else (spec_l1Method.l0 k 0 x102000 x103000 x103001 x103002)
def spec_l1Method.l0 : Nat → Int → List (S_impl_Method) → Int → Int → List (S_impl_Op) → Option (Bool)
  | 0, _, _, _, _, _ => none
  | k + 1, x5, x102000, x103000, x103001, x103002 => if x5 < (x103002.length : Int) then (if 0 ≤ x5 then ((spec_l1Op.f k x102000 x103000 x103001 x103002 ((rd_impl_Op x103002 x5).f0) ((rd_impl_Op x103002 x5).f1)).bind fun t106 => (if t106 = true then (spec_l1Method.l0 k (wrap64 (x5 + 1)) x102000 x103000 x103001 x103002) else (some false))) else (none)) else (some true)
end
def spec_l1Method.f (k : Nat) (l0_0 : List (S_impl_Method)) (a1_0 : Int) (a1_1 : Int) (l1_2 : List (S_impl_Op)) : Option (Bool) := (spec_l6In.f a1_0 0 2).bind fun t103 => (if t103 = true then ((spec_l6In.f a1_1 a1_0 4).bind fun t104 => (if t104 = true then (spec_l1Method.j0 k (decide ((l1_2.length : Int) > 14)) l0_0 a1_0 a1_1 l1_2) else (spec_l1Method.j0 k true l0_0 a1_0 a1_1 l1_2))) else (spec_l1Method.j0 k true l0_0 a1_0 a1_1 l1_2))
theorem spec_l1Method.mono_l : ∀ k, (∀ y0 y1 y2 y3 y4, LeO (spec_l1Method.j0 k y0 y1 y2 y3 y4) (spec_l1Method.j0 (k + 1) y0 y1 y2 y3 y4)) ∧ (∀ y0 y1 y2 y3 y4, LeO (spec_l1Method.l0 k y0 y1 y2 y3 y4) (spec_l1Method.l0 (k + 1) y0 y1 y2 y3 y4))
  | 0 => ⟨fun _ _ _ _ _ r h => by simp [spec_l1Method.j0] at h, fun _ _ _ _ _ r h => by simp [spec_l1Method.l0] at h⟩
  | k + 1 => by
    obtain ⟨ih0, ih1⟩ := spec_l1Method.mono_l k
    refine ⟨?_, ?_⟩
    · intro y0 y1 y2 y3 y4
      unfold spec_l1Method.j0
      repeat' first
      | (with_reducible exact ih0 _ _ _ _ _)
      | (with_reducible exact ih1 _ _ _ _ _)
      | (with_reducible exact spec_l1Op.mono _ _ _ _ _ _ _)
      | (with_reducible exact LeO.refl _)
      | (with_reducible exact LeO.none _)
      | (with_reducible refine LeO.ite ?_ ?_)
      | (with_reducible refine LeO.bind ?_ (fun _ => ?_))
      | exact ih0 _ _ _ _ _
      | exact ih1 _ _ _ _ _
      | exact spec_l1Op.mono _ _ _ _ _ _ _
      | exact LeO.none _
      | refine LeO.ite ?_ ?_
      | refine LeO.bind ?_ (fun _ => ?_)
    · intro y0 y1 y2 y3 y4
      unfold spec_l1Method.l0
      repeat' first
      | (with_reducible exact ih0 _ _ _ _ _)
      | (with_reducible exact ih1 _ _ _ _ _)
      | (with_reducible exact spec_l1Op.mono _ _ _ _ _ _ _)
      | (with_reducible exact LeO.refl _)
      | (with_reducible exact LeO.none _)
      | (with_reducible refine LeO.ite ?_ ?_)
      | (with_reducible refine LeO.bind ?_ (fun _ => ?_))
      | exact ih0 _ _ _ _ _
      | exact ih1 _ _ _ _ _
      | exact spec_l1Op.mono _ _ _ _ _ _ _
      | exact LeO.none _
      | refine LeO.ite ?_ ?_
      | refine LeO.bind ?_ (fun _ => ?_)
theorem spec_l1Method.mono : ∀ a0 a1 a2 a3 k, LeO (spec_l1Method.f k a0 a1 a2 a3) (spec_l1Method.f (k + 1) a0 a1 a2 a3) := by
  intro a0 a1 a2 a3 k
  obtain ⟨ih0, ih1⟩ := spec_l1Method.mono_l k
  unfold spec_l1Method.f
  repeat' first
      | (with_reducible exact ih0 _ _ _ _ _)
      | (with_reducible exact ih1 _ _ _ _ _)
      | (with_reducible exact spec_l1Op.mono _ _ _ _ _ _ _)
      | (with_reducible exact LeO.refl _)
      | (with_reducible exact LeO.none _)
      | (with_reducible refine LeO.ite ?_ ?_)
      | (with_reducible refine LeO.bind ?_ (fun _ => ?_))
      | exact ih0 _ _ _ _ _
      | exact ih1 _ _ _ _ _
      | exact spec_l1Op.mono _ _ _ _ _ _ _
      | exact LeO.none _
      | refine LeO.ite ?_ ?_
      | refine LeO.bind ?_ (fun _ => ?_)
def spec_l1Method.T6 : Bool × List (List Nat × List Nat) := (true, [([], []), ([], []), ([], []), ([2], [2]), ([], []), ([3, 4], [3, 4]), ([5], [5]), ([0, 1, 6], [0, 1, 6]), ([7], [7])])
def spec_l1Method.B6 : List Nat := [0, 0, 0, 4, 0, 28, 60, 127, 255]
theorem spec_l1Method.tab6 : rtab .any (opsOf Try.f62 6) = spec_l1Method.T6 := by kernel_rfl
theorem spec_l1Method.bits6 : waitsOk spec_l1Method.T6.2 spec_l1Method.B6 = true := by kernel_rfl
set_option maxHeartbeats 8000000 in
set_option maxRecDepth 100000 in
theorem spec_l1Method.calls (k : Nat) (A0_0 : Option Addr) (c0_0 : Nat) (l0_0 : List (S_impl_Method)) (a1_0 : Int) (a1_1 : Int) (A1_2 : Option Addr) (c1_2 : Nat) (l1_2 : List (S_impl_Op)) (r : Bool) (w : World) (hr0_0 : Kd.C k_impl_Method w A0_0 l0_0.length l0_0) (hc0_0 : l0_0.length ≤ c0_0) (hr1_2 : Kd.C k_impl_Op w A1_2 l1_2.length l1_2) (hc1_2 : l1_2.length ≤ c1_2) (h : spec_l1Method.f k l0_0 a1_0 a1_1 l1_2 = some r) :
    Calls Try.prog 62 #[.agg #[.slice A0_0 l0_0.length c0_0], .agg #[.int .i64 a1_0, .int .i64 a1_1, .slice A1_2 l1_2.length c1_2]] w fun e w' => e = .returned (.bool r) ∧ Below w.heap.size w w' := by
  have hu46 := Try.underlying46
  have hu59 := Try.underlying59
  have hu48 := Try.underlying48
  have HR0_0 := Aside0.mk hr0_0
  have HC0_0 := Aside0.mk hc0_0
  clear hr0_0 hc0_0
  have HR1_2 := Aside0.mk hr1_2
  have HC1_2 := Aside0.mk hc1_2
  clear hr1_2 hc1_2
  have HB := Aside0.mk (Below.refl w.heap.size w)
  have H : ((spec_l6In.f a1_0 0 2).bind fun t103 => (if t103 = true then ((spec_l6In.f a1_1 a1_0 4).bind fun t104 => (if t104 = true then (spec_l1Method.j0 k (decide ((l1_2.length : Int) > 14)) l0_0 a1_0 a1_1 l1_2) else (spec_l1Method.j0 k true l0_0 a1_0 a1_1 l1_2))) else (spec_l1Method.j0 k true l0_0 a1_0 a1_1 l1_2))) = some r := h
  clear h
  have HC3 := Aside0.mk H
  clear H
  go_enter Try.func62, Try.ntmps62
  go_upto_region 1 with (first | ((with_reducible refine gate_dst (N := 2) rfl ?_); (try (refine gate_guard (by rfl) ?_; dsimp only)); refine box_event ?hg (N := 2) ?hd (cs := #[.slice A0_0 l0_0.length c0_0]) (t := 46) ?hr ?_; (case hd => rfl); (case hg => rfl); (case hr => first | (go_simp; done) | (go_simp; rfl)); intro gb101 hg w4 hbox hb; have n0_ := Aside0.mk (below_step (bw_) hb); have n1_ := Aside0.mk (hbox); have n2_ := Aside0.mk ((by rw [hg]; exact (below_size (bw_)) : w.heap.size ≤ gb101)); have n3_ := Aside0.mk ((by rw [hg]; exact (below_size (bw_)) : w.heap.size ≤ gb101)); clear HB; have HB := n0_; have BK101 := n1_; have GW101 := n2_; have GE101 := n3_; clear n0_ n1_ n2_ n3_; clear hb hbox hg) | ((with_reducible refine gate_dst (N := 3) rfl ?_); (try (refine gate_guard (by rfl) ?_; dsimp only)); refine box_event ?hg (N := 3) ?hd (cs := #[.int .i64 a1_0, .int .i64 a1_1, .slice A1_2 l1_2.length c1_2]) (t := 59) ?hr ?_; (case hd => rfl); (case hg => rfl); (case hr => first | (go_simp; done) | (go_simp; rfl)); intro gb102 hg w5 hbox hb; have n0_ := Aside0.mk (blk_below (g := gb101) (o := .cells #[.slice A0_0 l0_0.length c0_0] 46 (0, 0)) (by (with_reducible repeat (first | refine blk_drewN ?_ _ | refine blk_drew ?_ | refine blk_alloc ?_ _)); exact BK101.out) hb); have n1_ := Aside0.mk (below_step (bw_) hb); have n2_ := Aside0.mk (hbox); have n3_ := Aside0.mk ((by rw [hg]; exact (below_size (bw_)) : w.heap.size ≤ gb102)); have n4_ := Aside0.mk ((by rw [hg]; exact (below_size (bw_)) : w.heap.size ≤ gb102)); have n5_ := Aside0.mk ((by rw [hg]; exact Nat.ne_of_lt (blk_lt (g := gb101) (o := .cells #[.slice A0_0 l0_0.length c0_0] 46 (0, 0)) (by (with_reducible repeat (first | refine blk_drewN ?_ _ | refine blk_drew ?_ | refine blk_alloc ?_ _)); exact BK101.out)) : gb101 ≠ gb102)); have n6_ := Aside0.mk ((by rw [hg]; exact Nat.ne_of_gt (blk_lt (g := gb101) (o := .cells #[.slice A0_0 l0_0.length c0_0] 46 (0, 0)) (by (with_reducible repeat (first | refine blk_drewN ?_ _ | refine blk_drew ?_ | refine blk_alloc ?_ _)); exact BK101.out)) : gb102 ≠ gb101)); clear BK101; clear HB; have BK101 := n0_; have HB := n1_; have BK102 := n2_; have GW102 := n3_; have GE102 := n4_; have NB101_102 := n5_; have NB102_101 := n6_; clear n0_ n1_ n2_ n3_ n4_ n5_ n6_; clear hb hbox hg))
  (try simp only [Act.put, List.setIfInBounds_toArray, List.set_cons_zero, List.set_cons_succ])
  go_cut [23] (fun v23 wc => ∃ (kq : Nat) (x23_2 : Bool), v23 = .bool x23_2 ∧ Aside0 (spec_l1Method.j0 kq x23_2 l0_0 a1_0 a1_1 l1_2 = some r) ∧ Aside0 (kq ≤ k) ∧ Aside0 (wc.heap[gb101]? = some (.cells #[(.slice A0_0 l0_0.length c0_0)] 46 (0, 0))) ∧ Aside0 (wc.heap[gb102]? = some (.cells #[.int .i64 a1_0, .int .i64 a1_1, (.slice A1_2 l1_2.length c1_2)] 59 (0, 0))) ∧ Aside0 (Below w.heap.size w wc))
  case first =>
    have H := HC3.out
    clear HC3
    replace H := Option.bind_eq_some_iff.mp H
    obtain ⟨t103, A60, H⟩ := H
    replace H : (if t103 = true then ((spec_l6In.f a1_1 a1_0 4).bind fun t104 => (if t104 = true then (spec_l1Method.j0 k (decide ((l1_2.length : Int) > 14)) l0_0 a1_0 a1_1 l1_2) else (spec_l1Method.j0 k true l0_0 a1_0 a1_1 l1_2))) else (spec_l1Method.j0 k true l0_0 a1_0 a1_1 l1_2)) = some r := H
    have A6 := Aside0.mk A60
    clear A60
    by_cases c7 : t103 = true
    · subst c7
      have H1 : ((spec_l6In.f a1_1 a1_0 4).bind fun t104 => (if t104 = true then (spec_l1Method.j0 k (decide ((l1_2.length : Int) > 14)) l0_0 a1_0 a1_1 l1_2) else (spec_l1Method.j0 k true l0_0 a1_0 a1_1 l1_2))) = some r := by rw [if_pos rfl] at H; exact H
      clear H
      have H := H1
      clear H1
      replace H := Option.bind_eq_some_iff.mp H
      obtain ⟨t104, A80, H⟩ := H
      replace H : (if t104 = true then (spec_l1Method.j0 k (decide ((l1_2.length : Int) > 14)) l0_0 a1_0 a1_1 l1_2) else (spec_l1Method.j0 k true l0_0 a1_0 a1_1 l1_2)) = some r := H
      have A8 := Aside0.mk A80
      clear A80
      by_cases c9 : t104 = true
      · subst c9
        have H1 : (spec_l1Method.j0 k (decide ((l1_2.length : Int) > 14)) l0_0 a1_0 a1_1 l1_2) = some r := by rw [if_pos rfl] at H; exact H
        clear H
        have H := H1
        clear H1
        have H' := Aside0.mk H
        clear H
        have hnb10 := NB102_101.out
        have hnc10 := NB101_102.out
        have hcz11_0 : w5.cell? ⟨gb102, 0, none⟩ = some (.int .i64 a1_0) := (blk_cell BK102.out 0).trans rfl
        have hcz11_1 : w5.cell? ⟨gb102, 1, none⟩ = some (.int .i64 a1_1) := (blk_cell BK102.out 1).trans rfl
        have hcz11_2 : w5.cell? ⟨gb102, 2, none⟩ = some (.slice A1_2 l1_2.length c1_2) := (blk_cell BK102.out 2).trans rfl
        have hfz11_0 := blk_frozen BK102.out 0
        have hfz11_1 := blk_frozen BK102.out 1
        have hfz11_2 := blk_frozen BK102.out 2
        go_wp2_with (first | ((with_reducible refine gate_callee (f := 57) rfl ?_); refine goesL_ (some 8) rfl rfl Try.func57 (by kernel_rfl) rfl #[.int .i64 a1_0, .int .i64 0, .int .i64 2] rfl (by (try simp only [List.map_toArray, List.map_cons, List.map_nil]); first | done | rfl | (simp only [List.length_drop, List.length_take]; rfl)) ?_; (with_reducible refine (spec_l6In.calls a1_0 0 2 true _ A6.out).mono ?_); rintro e w' ⟨rfl, ⟨nd, rfl⟩⟩; refine ⟨_, rfl, ?_⟩) | (go_at_call 57; (with_reducible refine (spec_l6In.calls a1_1 a1_0 4 true _ A8.out).mono ?_); rintro e w' ⟨rfl, ⟨nd, rfl⟩⟩))
        go_meet
        case rel => exact ⟨_, (decide ((l1_2.length : Int) > 14)), (by first | rfl | (simp; done) | (simp [*]; done)), H', ⟨by first | omega | exact Nat.le_refl _⟩, ⟨by (with_reducible repeat (first | refine blk_drewN ?_ _ | refine blk_drew ?_ | refine blk_alloc ?_ _)); exact BK101.out⟩, ⟨by (with_reducible repeat (first | refine blk_drewN ?_ _ | refine blk_drew ?_ | refine blk_alloc ?_ _)); exact BK102.out⟩, ⟨bw_⟩⟩
      · replace c9 := Bool.eq_false_iff.mpr c9
        subst c9
        have H1 : (spec_l1Method.j0 k true l0_0 a1_0 a1_1 l1_2) = some r := by rw [if_neg (show ¬ (false = true) by decide)] at H; exact H
        clear H
        have H := H1
        clear H1
        have H' := Aside0.mk H
        clear H
        have hnb12 := NB102_101.out
        have hnc12 := NB101_102.out
        have hcz13_0 : w5.cell? ⟨gb102, 0, none⟩ = some (.int .i64 a1_0) := (blk_cell BK102.out 0).trans rfl
        have hcz13_1 : w5.cell? ⟨gb102, 1, none⟩ = some (.int .i64 a1_1) := (blk_cell BK102.out 1).trans rfl
        have hcz13_2 : w5.cell? ⟨gb102, 2, none⟩ = some (.slice A1_2 l1_2.length c1_2) := (blk_cell BK102.out 2).trans rfl
        have hfz13_0 := blk_frozen BK102.out 0
        have hfz13_1 := blk_frozen BK102.out 1
        have hfz13_2 := blk_frozen BK102.out 2
        go_wp2_with (first | ((with_reducible refine gate_callee (f := 57) rfl ?_); refine goesL_ (some 8) rfl rfl Try.func57 (by kernel_rfl) rfl #[.int .i64 a1_0, .int .i64 0, .int .i64 2] rfl (by (try simp only [List.map_toArray, List.map_cons, List.map_nil]); first | done | rfl | (simp only [List.length_drop, List.length_take]; rfl)) ?_; (with_reducible refine (spec_l6In.calls a1_0 0 2 true _ A6.out).mono ?_); rintro e w' ⟨rfl, ⟨nd, rfl⟩⟩; refine ⟨_, rfl, ?_⟩) | (go_at_call 57; (with_reducible refine (spec_l6In.calls a1_1 a1_0 4 false _ A8.out).mono ?_); rintro e w' ⟨rfl, ⟨nd, rfl⟩⟩))
        go_meet
        case rel => exact ⟨_, (true), (by first | rfl | (simp; done) | (simp [*]; done)), H', ⟨by first | omega | exact Nat.le_refl _⟩, ⟨by (with_reducible repeat (first | refine blk_drewN ?_ _ | refine blk_drew ?_ | refine blk_alloc ?_ _)); exact BK101.out⟩, ⟨by (with_reducible repeat (first | refine blk_drewN ?_ _ | refine blk_drew ?_ | refine blk_alloc ?_ _)); exact BK102.out⟩, ⟨bw_⟩⟩
    · replace c7 := Bool.eq_false_iff.mpr c7
      subst c7
      have H1 : (spec_l1Method.j0 k true l0_0 a1_0 a1_1 l1_2) = some r := by rw [if_neg (show ¬ (false = true) by decide)] at H; exact H
      clear H
      have H := H1
      clear H1
      have H' := Aside0.mk H
      clear H
      have hnb14 := NB102_101.out
      have hnc14 := NB101_102.out
      have hcz15_0 : w5.cell? ⟨gb102, 0, none⟩ = some (.int .i64 a1_0) := (blk_cell BK102.out 0).trans rfl
      have hcz15_1 : w5.cell? ⟨gb102, 1, none⟩ = some (.int .i64 a1_1) := (blk_cell BK102.out 1).trans rfl
      have hcz15_2 : w5.cell? ⟨gb102, 2, none⟩ = some (.slice A1_2 l1_2.length c1_2) := (blk_cell BK102.out 2).trans rfl
      have hfz15_0 := blk_frozen BK102.out 0
      have hfz15_1 := blk_frozen BK102.out 1
      have hfz15_2 := blk_frozen BK102.out 2
      go_wp2_with (first | ((with_reducible refine gate_callee (f := 57) rfl ?_); refine goesL_ (some 8) rfl rfl Try.func57 (by kernel_rfl) rfl #[.int .i64 a1_0, .int .i64 0, .int .i64 2] rfl (by (try simp only [List.map_toArray, List.map_cons, List.map_nil]); first | done | rfl | (simp only [List.length_drop, List.length_take]; rfl)) ?_; (with_reducible refine (spec_l6In.calls a1_0 0 2 false _ A6.out).mono ?_); rintro e w' ⟨rfl, ⟨nd, rfl⟩⟩; refine ⟨_, rfl, ?_⟩))
      go_meet
      case rel => exact ⟨_, (true), (by first | rfl | (simp; done) | (simp [*]; done)), H', ⟨by first | omega | exact Nat.le_refl _⟩, ⟨by (with_reducible repeat (first | refine blk_drewN ?_ _ | refine blk_drew ?_ | refine blk_alloc ?_ _)); exact BK101.out⟩, ⟨by (with_reducible repeat (first | refine blk_drewN ?_ _ | refine blk_drew ?_ | refine blk_alloc ?_ _)); exact BK102.out⟩, ⟨bw_⟩⟩
  case rest =>
    clear HC3
    try clear c1
    try clear p2
    try clear c5
    try clear c6
    try clear c7
    try clear c9
    try clear c10
    try clear c12
    try clear c14
    try clear hcz11_0
    try clear hcz11_1
    try clear hcz11_2
    try clear hcz13_0
    try clear hcz13_1
    try clear hcz13_2
    try clear hcz15_0
    try clear hcz15_1
    try clear hcz15_2
    try clear hfz11_0
    try clear hfz11_1
    try clear hfz11_2
    try clear hfz13_0
    try clear hfz13_1
    try clear hfz13_2
    try clear hfz15_0
    try clear hfz15_1
    try clear hfz15_2
    obtain ⟨kq, x23_2, rfl, HA, HJ2, BK101, BK102, HB⟩ := hcut
    cases kq with
    | zero => exact absurd HA.out (by simp [spec_l1Method.j0])
    | succ kj2 =>
      have H := HA.out
      clear HA
      simp only [spec_l1Method.j0] at H
      by_cases c16 : x23_2 = true
      · subst c16
        have H1 : (some false) = some r := by rw [if_pos rfl] at H; exact H
        clear H
        have H := H1
        clear H1
        obtain rfl := Option.some.inj H
        go_wp2
        go_ret
        exact ⟨by first | rfl | (simp [errW_none, errW_some] <;> rfl) | (simp [*, errW_none, errW_some] <;> rfl), bw_⟩
      · replace c16 := Bool.eq_false_iff.mpr c16
        subst c16
        have H1 : (spec_l1Method.l0 kj2 0 l0_0 a1_0 a1_1 l1_2) = some r := by rw [if_neg (show ¬ (false = true) by decide)] at H; exact H
        clear H
        have H := H1
        clear H1
        have H' := Aside0.mk H
        clear H
        go_wp2
        go_loopg [5] kj2 (fun kq v5 w' => ∃ (x5_2 : Int), v5 = .int .i64 x5_2 ∧ Aside0 (spec_l1Method.l0 kq x5_2 l0_0 a1_0 a1_1 l1_2 = some r) ∧ Aside0 (kq ≤ kj2) ∧ Aside0 (w'.heap[gb101]? = some (.cells #[(.slice A0_0 l0_0.length c0_0)] 46 (0, 0))) ∧ Aside0 (w'.heap[gb102]? = some (.cells #[.int .i64 a1_0, .int .i64 a1_1, (.slice A1_2 l1_2.length c1_2)] 59 (0, 0))) ∧ Aside0 (Below w.heap.size w w'))
        case atStart => exact ⟨(0), (by first | rfl | (simp; done) | (simp [*]; done)), H', ⟨Nat.le_refl _⟩, ⟨by (with_reducible repeat (first | refine blk_drewN ?_ _ | refine blk_drew ?_ | refine blk_alloc ?_ _)); exact BK101.out⟩, ⟨by (with_reducible repeat (first | refine blk_drewN ?_ _ | refine blk_drew ?_ | refine blk_alloc ?_ _)); exact BK102.out⟩, ⟨bw_⟩⟩
        case round =>
          clear H'
          try clear c1
          try clear p2
          try clear c5
          try clear c6
          try clear c7
          try clear c9
          try clear c10
          try clear c12
          try clear c14
          try clear c16
          try clear hcz11_0
          try clear hcz11_1
          try clear hcz11_2
          try clear hcz13_0
          try clear hcz13_1
          try clear hcz13_2
          try clear hcz15_0
          try clear hcz15_1
          try clear hcz15_2
          try clear hfz11_0
          try clear hfz11_1
          try clear hfz11_2
          try clear hfz13_0
          try clear hfz13_1
          try clear hfz13_2
          try clear hfz15_0
          try clear hfz15_1
          try clear hfz15_2
          try clear p2
          obtain ⟨x5_2, rfl, HA, HK2, BK101, BK102, HB⟩ := hrel
          cases gk with
          | zero => exact absurd HA.out (by simp [spec_l1Method.l0])
          | succ k2 =>
            have H := HA.out
            clear HA
            simp only [spec_l1Method.l0] at H
            by_cases c17 : x5_2 < (l1_2.length : Int)
            · rw [if_pos c17] at H
              have c17b0 : decide (x5_2 < (l1_2.length : Int)) = true := decide_eq_true c17
              clear c17
              by_cases c18 : 0 ≤ x5_2
              · rw [if_pos c18] at H
                have c18b0 : decide (0 ≤ x5_2) = true := decide_eq_true c18
                clear c18
                replace H := Option.bind_eq_some_iff.mp H
                obtain ⟨t106, A190, H⟩ := H
                replace H : (if t106 = true then (spec_l1Method.l0 k2 (wrap64 (x5_2 + 1)) l0_0 a1_0 a1_1 l1_2) else (some false)) = some r := H
                have A19 := Aside0.mk A190
                clear A190
                by_cases c20 : t106 = true
                · subst c20
                  have H1 : (spec_l1Method.l0 k2 (wrap64 (x5_2 + 1)) l0_0 a1_0 a1_1 l1_2) = some r := by rw [if_pos rfl] at H; exact H
                  clear H
                  have H := H1
                  clear H1
                  have H' := Aside0.mk H
                  clear H
                  have hnb21 := NB102_101.out
                  have hnc21 := NB101_102.out
                  have hcz22_0 : wr.cell? ⟨gb102, 0, none⟩ = some (.int .i64 a1_0) := (blk_cell BK102.out 0).trans rfl
                  have hcz22_1 : wr.cell? ⟨gb102, 1, none⟩ = some (.int .i64 a1_1) := (blk_cell BK102.out 1).trans rfl
                  have hcz22_2 : wr.cell? ⟨gb102, 2, none⟩ = some (.slice A1_2 l1_2.length c1_2) := (blk_cell BK102.out 2).trans rfl
                  have hfz22_0 := blk_frozen BK102.out 0
                  have hfz22_1 := blk_frozen BK102.out 1
                  have hfz22_2 := blk_frozen BK102.out 2
                  try go_wp2
                  have n0_ := Aside0.mk (blk_drew BK101.out)
                  have n1_ := Aside0.mk (blk_drew BK102.out)
                  have n2_ := Aside0.mk (below_drew1 HB.out)
                  clear BK101
                  clear BK102
                  clear HB
                  have BK101 := n0_
                  have BK102 := n1_
                  have HB := n2_
                  clear n0_ n1_ n2_
                  have p105 : 0 ≤ (x5_2 : Int) := of_decide_eq_true (by first | (with_reducible assumption) | assumption)
                  have q105 : x5_2 < (l1_2.length : Int) := of_decide_eq_true (by first | (with_reducible assumption) | assumption)
                  obtain ⟨ad105, e105, hx105_0, hx105_1⟩ := at_impl_Op HR1_2.out x5_2 p105 q105
                  have hw105_1 := hx105_1
                  have hw105_0 := hx105_0
                  cases e105
                  replace hx105_0 := (HB.out.cell (World.block_lt_of_cell? w _ hx105_0)).trans hx105_0
                  replace hx105_1 := (HB.out.cell (World.block_lt_of_cell? w _ hx105_1)).trans hx105_1
                  replace p105 := eq_true p105
                  replace q105 := eq_true q105
                  refine start_ (n := 9) (S := fun w' => w'.cell? ⟨gb101, 0, none⟩ = some (.slice A0_0 l0_0.length c0_0) ∧ w'.cell? ⟨gb102, 0, none⟩ = some (.int .i64 a1_0) ∧ w'.cell? ⟨gb102, 1, none⟩ = some (.int .i64 a1_1) ∧ w'.cell? ⟨gb102, 2, none⟩ = some (.slice (some ad105) l1_2.length c1_2) ∧ w'.cell? (ad105.add ((x5_2).toNat * 2)) = some (.int .i64 ((rd_impl_Op l1_2 x5_2).f0)) ∧ w'.cell? ⟨(ad105.add ((x5_2).toNat * 2)).block, (ad105.add ((x5_2).toNat * 2)).off + 1, none⟩ = some (.int .i64 ((rd_impl_Op l1_2 x5_2).f1))) (ds := []) #[false, false, false, false, false, false, false, false, false] (by kernel_rfl) rfl rfl ⟨(blk_cell BK101.out 0).trans rfl, (blk_cell BK102.out 0).trans rfl, (blk_cell BK102.out 1).trans rfl, (blk_cell BK102.out 2).trans rfl, ((HB.out.cell (World.block_lt_of_cell? w _ hw105_0)).trans hw105_0), ((HB.out.cell (World.block_lt_of_cell? w _ hw105_1)).trans hw105_1)⟩ (fun hHeld => ?_); refine with_tabW spec_l1Method.tab6 spec_l1Method.bits6 (fun HT_ HW_ => ?_)
                  generalize wr.drew = w23 at BK101 BK102 HB hx105_0 hx105_1 hHeld ⊢
                  refine pure_ (i := 2) (N := some 33) (v := ?_) (a' := ?_) #[false, false, true, false, false, false, false, false, false] rfl rfl (any_of HT_.out (by kernel_rfl)) (fun _ _ _ h => h) (Or.inl ⟨by rfl, ?_⟩) ?_ ?_
                  rotate_left
                  · intro w'
                    go_simp
                    with_reducible rfl
                  rotate_left
                  · simp only [Act.put, List.setIfInBounds_toArray, List.set_cons_zero, List.set_cons_succ, i64_w, i32_w]
                    rfl
                  refine pure_ (i := 4) (N := some 35) (v := ?_) (a' := ?_) #[false, false, true, false, true, false, false, false, false] rfl rfl (any_of HT_.out (by kernel_rfl)) (fun _ _ _ h => h) (Or.inl ⟨by rfl, ?_⟩) ?_ ?_
                  rotate_left
                  · intro w'
                    go_simp
                    with_reducible rfl
                  rotate_left
                  · simp only [Act.put, List.setIfInBounds_toArray, List.set_cons_zero, List.set_cons_succ, i64_w, i32_w]
                    rfl
                  refine take_ (i := 0) (N := some 31) (v := ?_) (a' := ?_) #[true, false, true, false, true, false, false, false, false] rfl rfl (take_ofW HT_.out HW_.out (by kernel_rfl)) (fun _ _ _ h => h) (Or.inl ⟨by rfl, ?_⟩) hHeld ?_ ?_
                  rotate_left
                  · rintro w' ⟨s0, s1, s2, s3, s4, s5⟩
                    go_simp
                    with_reducible rfl
                  rotate_left
                  · simp only [Act.put, List.setIfInBounds_toArray, List.set_cons_zero, List.set_cons_succ, i64_w, i32_w]
                    rfl
                  refine take_ (i := 1) (N := some 32) (v := ?_) (a' := ?_) #[true, true, true, false, true, false, false, false, false] rfl rfl (take_ofW HT_.out HW_.out (by kernel_rfl)) (fun _ _ _ h => h) (Or.inl ⟨by rfl, ?_⟩) hHeld ?_ ?_
                  rotate_left
                  · rintro w' ⟨s0, s1, s2, s3, s4, s5⟩
                    go_simp
                    with_reducible rfl
                  rotate_left
                  · simp only [Act.put, List.setIfInBounds_toArray, List.set_cons_zero, List.set_cons_succ, i64_w, i32_w]
                    rfl
                  refine take_ (i := 3) (N := some 34) (v := ?_) (a' := ?_) #[true, true, true, true, true, false, false, false, false] rfl rfl (take_ofW HT_.out HW_.out (by kernel_rfl)) (fun _ _ _ h => h) (Or.inl ⟨by rfl, ?_⟩) hHeld ?_ ?_
                  rotate_left
                  · rintro w' ⟨s0, s1, s2, s3, s4, s5⟩
                    go_simp
                    with_reducible rfl
                  rotate_left
                  · simp only [Act.put, List.setIfInBounds_toArray, List.set_cons_zero, List.set_cons_succ, i64_w, i32_w]
                    rfl
                  refine pure_ (i := 5) (N := some 36) (v := ?_) (a' := ?_) #[true, true, true, true, true, true, false, false, false] rfl rfl (any_of HT_.out (by kernel_rfl)) (fun _ _ _ h => h) (Or.inl ⟨by rfl, ?_⟩) ?_ ?_
                  rotate_left
                  · intro w'
                    go_simp
                    with_reducible rfl
                  rotate_left
                  · simp only [Act.put, List.setIfInBounds_toArray, List.set_cons_zero, List.set_cons_succ, i64_w, i32_w]
                    rfl
                  refine take_ (i := 6) (N := some 37) (v := ?_) (a' := ?_) #[true, true, true, true, true, true, true, false, false] rfl rfl (take_ofW HT_.out HW_.out (by kernel_rfl)) (fun _ _ _ h => h) (Or.inl ⟨by rfl, ?_⟩) hHeld ?_ ?_
                  rotate_left
                  · rintro w' ⟨s0, s1, s2, s3, s4, s5⟩
                    go_simp
                    with_reducible rfl
                  rotate_left
                  · simp only [Act.put, List.setIfInBounds_toArray, List.set_cons_zero, List.set_cons_succ, i64_w, i32_w]
                    rfl
                  refine one_ (i := 7) (N := some 38) #[true, true, true, true, true, true, true, true, false] rfl rfl (one_of HT_.out (by kernel_rfl)) (by decide) (fun K hK => ?_)
                  refine goes_ Try.func94 (by kernel_rfl) rfl #[.agg #[.slice A0_0 l0_0.length c0_0], .agg #[.int .i64 a1_0, .int .i64 a1_1, .slice (some ad105) l1_2.length c1_2], .agg #[.int .i64 ((rd_impl_Op l1_2 x5_2).f0), .int .i64 ((rd_impl_Op l1_2 x5_2).f1)]] (by rfl) rfl rfl (by (try simp only [List.map_toArray, List.map_cons, List.map_nil]); first | done | rfl | (simp only [List.length_drop, List.length_take]; rfl)) ?_
                  with_reducible refine (spec_l1Op.calls k2 _ _ l0_0 a1_0 a1_1 _ _ l1_2 ((rd_impl_Op l1_2 x5_2).f0) ((rd_impl_Op l1_2 x5_2).f1) true _ ?side1 ?side2 ?side3 ?side4 A19.out).mono ?_
                  (case side1 => exact cb_)
                  (case side2 => exact HC0_0.out)
                  (case side3 => exact cb_)
                  (case side4 => exact HC1_2.out)
                  rintro e w24 ⟨rfl, hb⟩
                  refine ⟨_, rfl, ?_⟩
                  have n0_ := Aside0.mk (blk_below (g := gb101) (o := .cells #[.slice A0_0 l0_0.length c0_0] 46 (0, 0)) (by (with_reducible repeat (first | refine blk_drewN ?_ _ | refine blk_drew ?_ | refine blk_alloc ?_ _)); exact BK101.out) hb)
                  have n1_ := Aside0.mk (blk_below (g := gb102) (o := .cells #[.int .i64 a1_0, .int .i64 a1_1, .slice (some ad105) l1_2.length c1_2] 59 (0, 0)) (by (with_reducible repeat (first | refine blk_drewN ?_ _ | refine blk_drew ?_ | refine blk_alloc ?_ _)); exact BK102.out) hb)
                  have n2_ := Aside0.mk (below_step (bw_) hb)
                  clear BK101
                  clear BK102
                  clear HB
                  have BK101 := n0_
                  have BK102 := n1_
                  have HB := n2_
                  clear n0_ n1_ n2_
                  (try clear hb)
                  (try clear hb2)
                  (try clear hk)
                  (try clear hi)
                  refine hK.out _ _ ⟨(blk_cell BK101.out 0).trans rfl, (blk_cell BK102.out 0).trans rfl, (blk_cell BK102.out 1).trans rfl, (blk_cell BK102.out 2).trans rfl, ((HB.out.cell (World.block_lt_of_cell? w _ hw105_0)).trans hw105_0), ((HB.out.cell (World.block_lt_of_cell? w _ hw105_1)).trans hw105_1)⟩ (fun hHeld => ?_)
                  clear hK K
                  refine norm_ (a' := ?_) ?_ ?_
                  rotate_left
                  · show Act.put _ (some 38) _ = _
                    simp only [Act.put, List.setIfInBounds_toArray, List.set_cons_zero, List.set_cons_succ, i64_w, i32_w]
                    rfl
                  refine pure_ (i := 8) (N := some 39) (v := ?_) (a' := ?_) #[true, true, true, true, true, true, true, true, true] rfl rfl (any_of HT_.out (by kernel_rfl)) (fun _ _ _ h => h) (Or.inl ⟨by rfl, ?_⟩) ?_ ?_
                  rotate_left
                  · intro w'
                    go_simp
                    with_reducible rfl
                  rotate_left
                  · simp only [Act.put, List.setIfInBounds_toArray, List.set_cons_zero, List.set_cons_succ, i64_w, i32_w]
                    rfl
                  refine done_ (done_of HT_.out (by kernel_rfl)) ?_
                  try go_wp2
                  go_roundg k2
                  case measure => have := HJ2.out; have := HK2.out; omega
                  case rel => exact ⟨(wrap64 (x5_2 + 1)), (by first | rfl | (simp; done) | (simp [*]; done)), H', ⟨by have := HJ2.out; have := HK2.out; omega⟩, ⟨by (with_reducible repeat (first | refine blk_drewN ?_ _ | refine blk_drew ?_ | refine blk_alloc ?_ _)); exact BK101.out⟩, ⟨by (with_reducible repeat (first | refine blk_drewN ?_ _ | refine blk_drew ?_ | refine blk_alloc ?_ _)); exact BK102.out⟩, ⟨bw_⟩⟩
                · replace c20 := Bool.eq_false_iff.mpr c20
                  subst c20
                  have H1 : (some false) = some r := by rw [if_neg (show ¬ (false = true) by decide)] at H; exact H
                  clear H
                  have H := H1
                  clear H1
                  obtain rfl := Option.some.inj H
                  have hnb25 := NB102_101.out
                  have hnc25 := NB101_102.out
                  have hcz26_0 : wr.cell? ⟨gb102, 0, none⟩ = some (.int .i64 a1_0) := (blk_cell BK102.out 0).trans rfl
                  have hcz26_1 : wr.cell? ⟨gb102, 1, none⟩ = some (.int .i64 a1_1) := (blk_cell BK102.out 1).trans rfl
                  have hcz26_2 : wr.cell? ⟨gb102, 2, none⟩ = some (.slice A1_2 l1_2.length c1_2) := (blk_cell BK102.out 2).trans rfl
                  have hfz26_0 := blk_frozen BK102.out 0
                  have hfz26_1 := blk_frozen BK102.out 1
                  have hfz26_2 := blk_frozen BK102.out 2
                  try go_wp2
                  have n0_ := Aside0.mk (blk_drew BK101.out)
                  have n1_ := Aside0.mk (blk_drew BK102.out)
                  have n2_ := Aside0.mk (below_drew1 HB.out)
                  clear BK101
                  clear BK102
                  clear HB
                  have BK101 := n0_
                  have BK102 := n1_
                  have HB := n2_
                  clear n0_ n1_ n2_
                  have p105 : 0 ≤ (x5_2 : Int) := of_decide_eq_true (by first | (with_reducible assumption) | assumption)
                  have q105 : x5_2 < (l1_2.length : Int) := of_decide_eq_true (by first | (with_reducible assumption) | assumption)
                  obtain ⟨ad105, e105, hx105_0, hx105_1⟩ := at_impl_Op HR1_2.out x5_2 p105 q105
                  have hw105_1 := hx105_1
                  have hw105_0 := hx105_0
                  cases e105
                  replace hx105_0 := (HB.out.cell (World.block_lt_of_cell? w _ hx105_0)).trans hx105_0
                  replace hx105_1 := (HB.out.cell (World.block_lt_of_cell? w _ hx105_1)).trans hx105_1
                  replace p105 := eq_true p105
                  replace q105 := eq_true q105
                  refine start_ (n := 9) (S := fun w' => w'.cell? ⟨gb101, 0, none⟩ = some (.slice A0_0 l0_0.length c0_0) ∧ w'.cell? ⟨gb102, 0, none⟩ = some (.int .i64 a1_0) ∧ w'.cell? ⟨gb102, 1, none⟩ = some (.int .i64 a1_1) ∧ w'.cell? ⟨gb102, 2, none⟩ = some (.slice (some ad105) l1_2.length c1_2) ∧ w'.cell? (ad105.add ((x5_2).toNat * 2)) = some (.int .i64 ((rd_impl_Op l1_2 x5_2).f0)) ∧ w'.cell? ⟨(ad105.add ((x5_2).toNat * 2)).block, (ad105.add ((x5_2).toNat * 2)).off + 1, none⟩ = some (.int .i64 ((rd_impl_Op l1_2 x5_2).f1))) (ds := []) #[false, false, false, false, false, false, false, false, false] (by kernel_rfl) rfl rfl ⟨(blk_cell BK101.out 0).trans rfl, (blk_cell BK102.out 0).trans rfl, (blk_cell BK102.out 1).trans rfl, (blk_cell BK102.out 2).trans rfl, ((HB.out.cell (World.block_lt_of_cell? w _ hw105_0)).trans hw105_0), ((HB.out.cell (World.block_lt_of_cell? w _ hw105_1)).trans hw105_1)⟩ (fun hHeld => ?_); refine with_tabW spec_l1Method.tab6 spec_l1Method.bits6 (fun HT_ HW_ => ?_)
                  generalize wr.drew = w27 at BK101 BK102 HB hx105_0 hx105_1 hHeld ⊢
                  refine pure_ (i := 2) (N := some 33) (v := ?_) (a' := ?_) #[false, false, true, false, false, false, false, false, false] rfl rfl (any_of HT_.out (by kernel_rfl)) (fun _ _ _ h => h) (Or.inl ⟨by rfl, ?_⟩) ?_ ?_
                  rotate_left
                  · intro w'
                    go_simp
                    with_reducible rfl
                  rotate_left
                  · simp only [Act.put, List.setIfInBounds_toArray, List.set_cons_zero, List.set_cons_succ, i64_w, i32_w]
                    rfl
                  refine pure_ (i := 4) (N := some 35) (v := ?_) (a' := ?_) #[false, false, true, false, true, false, false, false, false] rfl rfl (any_of HT_.out (by kernel_rfl)) (fun _ _ _ h => h) (Or.inl ⟨by rfl, ?_⟩) ?_ ?_
                  rotate_left
                  · intro w'
                    go_simp
                    with_reducible rfl
                  rotate_left
                  · simp only [Act.put, List.setIfInBounds_toArray, List.set_cons_zero, List.set_cons_succ, i64_w, i32_w]
                    rfl
                  refine take_ (i := 0) (N := some 31) (v := ?_) (a' := ?_) #[true, false, true, false, true, false, false, false, false] rfl rfl (take_ofW HT_.out HW_.out (by kernel_rfl)) (fun _ _ _ h => h) (Or.inl ⟨by rfl, ?_⟩) hHeld ?_ ?_
                  rotate_left
                  · rintro w' ⟨s0, s1, s2, s3, s4, s5⟩
                    go_simp
                    with_reducible rfl
                  rotate_left
                  · simp only [Act.put, List.setIfInBounds_toArray, List.set_cons_zero, List.set_cons_succ, i64_w, i32_w]
                    rfl
                  refine take_ (i := 1) (N := some 32) (v := ?_) (a' := ?_) #[true, true, true, false, true, false, false, false, false] rfl rfl (take_ofW HT_.out HW_.out (by kernel_rfl)) (fun _ _ _ h => h) (Or.inl ⟨by rfl, ?_⟩) hHeld ?_ ?_
                  rotate_left
                  · rintro w' ⟨s0, s1, s2, s3, s4, s5⟩
                    go_simp
                    with_reducible rfl
                  rotate_left
                  · simp only [Act.put, List.setIfInBounds_toArray, List.set_cons_zero, List.set_cons_succ, i64_w, i32_w]
                    rfl
                  refine take_ (i := 3) (N := some 34) (v := ?_) (a' := ?_) #[true, true, true, true, true, false, false, false, false] rfl rfl (take_ofW HT_.out HW_.out (by kernel_rfl)) (fun _ _ _ h => h) (Or.inl ⟨by rfl, ?_⟩) hHeld ?_ ?_
                  rotate_left
                  · rintro w' ⟨s0, s1, s2, s3, s4, s5⟩
                    go_simp
                    with_reducible rfl
                  rotate_left
                  · simp only [Act.put, List.setIfInBounds_toArray, List.set_cons_zero, List.set_cons_succ, i64_w, i32_w]
                    rfl
                  refine pure_ (i := 5) (N := some 36) (v := ?_) (a' := ?_) #[true, true, true, true, true, true, false, false, false] rfl rfl (any_of HT_.out (by kernel_rfl)) (fun _ _ _ h => h) (Or.inl ⟨by rfl, ?_⟩) ?_ ?_
                  rotate_left
                  · intro w'
                    go_simp
                    with_reducible rfl
                  rotate_left
                  · simp only [Act.put, List.setIfInBounds_toArray, List.set_cons_zero, List.set_cons_succ, i64_w, i32_w]
                    rfl
                  refine take_ (i := 6) (N := some 37) (v := ?_) (a' := ?_) #[true, true, true, true, true, true, true, false, false] rfl rfl (take_ofW HT_.out HW_.out (by kernel_rfl)) (fun _ _ _ h => h) (Or.inl ⟨by rfl, ?_⟩) hHeld ?_ ?_
                  rotate_left
                  · rintro w' ⟨s0, s1, s2, s3, s4, s5⟩
                    go_simp
                    with_reducible rfl
                  rotate_left
                  · simp only [Act.put, List.setIfInBounds_toArray, List.set_cons_zero, List.set_cons_succ, i64_w, i32_w]
                    rfl
                  refine one_ (i := 7) (N := some 38) #[true, true, true, true, true, true, true, true, false] rfl rfl (one_of HT_.out (by kernel_rfl)) (by decide) (fun K hK => ?_)
                  refine goes_ Try.func94 (by kernel_rfl) rfl #[.agg #[.slice A0_0 l0_0.length c0_0], .agg #[.int .i64 a1_0, .int .i64 a1_1, .slice (some ad105) l1_2.length c1_2], .agg #[.int .i64 ((rd_impl_Op l1_2 x5_2).f0), .int .i64 ((rd_impl_Op l1_2 x5_2).f1)]] (by rfl) rfl rfl (by (try simp only [List.map_toArray, List.map_cons, List.map_nil]); first | done | rfl | (simp only [List.length_drop, List.length_take]; rfl)) ?_
                  with_reducible refine (spec_l1Op.calls k2 _ _ l0_0 a1_0 a1_1 _ _ l1_2 ((rd_impl_Op l1_2 x5_2).f0) ((rd_impl_Op l1_2 x5_2).f1) false _ ?side1 ?side2 ?side3 ?side4 A19.out).mono ?_
                  (case side1 => exact cb_)
                  (case side2 => exact HC0_0.out)
                  (case side3 => exact cb_)
                  (case side4 => exact HC1_2.out)
                  rintro e w28 ⟨rfl, hb⟩
                  refine ⟨_, rfl, ?_⟩
                  have n0_ := Aside0.mk (blk_below (g := gb101) (o := .cells #[.slice A0_0 l0_0.length c0_0] 46 (0, 0)) (by (with_reducible repeat (first | refine blk_drewN ?_ _ | refine blk_drew ?_ | refine blk_alloc ?_ _)); exact BK101.out) hb)
                  have n1_ := Aside0.mk (blk_below (g := gb102) (o := .cells #[.int .i64 a1_0, .int .i64 a1_1, .slice (some ad105) l1_2.length c1_2] 59 (0, 0)) (by (with_reducible repeat (first | refine blk_drewN ?_ _ | refine blk_drew ?_ | refine blk_alloc ?_ _)); exact BK102.out) hb)
                  have n2_ := Aside0.mk (below_step (bw_) hb)
                  clear BK101
                  clear BK102
                  clear HB
                  have BK101 := n0_
                  have BK102 := n1_
                  have HB := n2_
                  clear n0_ n1_ n2_
                  (try clear hb)
                  (try clear hb2)
                  (try clear hk)
                  (try clear hi)
                  refine hK.out _ _ ⟨(blk_cell BK101.out 0).trans rfl, (blk_cell BK102.out 0).trans rfl, (blk_cell BK102.out 1).trans rfl, (blk_cell BK102.out 2).trans rfl, ((HB.out.cell (World.block_lt_of_cell? w _ hw105_0)).trans hw105_0), ((HB.out.cell (World.block_lt_of_cell? w _ hw105_1)).trans hw105_1)⟩ (fun hHeld => ?_)
                  clear hK K
                  refine norm_ (a' := ?_) ?_ ?_
                  rotate_left
                  · show Act.put _ (some 38) _ = _
                    simp only [Act.put, List.setIfInBounds_toArray, List.set_cons_zero, List.set_cons_succ, i64_w, i32_w]
                    rfl
                  refine pure_ (i := 8) (N := some 39) (v := ?_) (a' := ?_) #[true, true, true, true, true, true, true, true, true] rfl rfl (any_of HT_.out (by kernel_rfl)) (fun _ _ _ h => h) (Or.inl ⟨by rfl, ?_⟩) ?_ ?_
                  rotate_left
                  · intro w'
                    go_simp
                    with_reducible rfl
                  rotate_left
                  · simp only [Act.put, List.setIfInBounds_toArray, List.set_cons_zero, List.set_cons_succ, i64_w, i32_w]
                    rfl
                  refine done_ (done_of HT_.out (by kernel_rfl)) ?_
                  try go_wp2
                  go_ret
                  exact ⟨by first | rfl | (simp [errW_none, errW_some] <;> rfl) | (simp [*, errW_none, errW_some] <;> rfl), bw_⟩
              · rw [if_neg c18] at H
                exact absurd H (by simp)
            · rw [if_neg c17] at H
              have c17b0 : decide (x5_2 < (l1_2.length : Int)) = false := decide_eq_false c17
              clear c17
              obtain rfl := Option.some.inj H
              have hnb29 := NB102_101.out
              have hnc29 := NB101_102.out
              have hcz30_0 : wr.cell? ⟨gb102, 0, none⟩ = some (.int .i64 a1_0) := (blk_cell BK102.out 0).trans rfl
              have hcz30_1 : wr.cell? ⟨gb102, 1, none⟩ = some (.int .i64 a1_1) := (blk_cell BK102.out 1).trans rfl
              have hcz30_2 : wr.cell? ⟨gb102, 2, none⟩ = some (.slice A1_2 l1_2.length c1_2) := (blk_cell BK102.out 2).trans rfl
              have hfz30_0 := blk_frozen BK102.out 0
              have hfz30_1 := blk_frozen BK102.out 1
              have hfz30_2 := blk_frozen BK102.out 2
              go_wp2
              go_ret
              exact ⟨by first | rfl | (simp [errW_none, errW_some] <;> rfl) | (simp [*, errW_none, errW_some] <;> rfl), bw_⟩
end Go.Proofs.Ytcllkemhlhbdgaa.G
namespace Go.Proofs.Ytcllkemhlhbdgaa.G
open Go.RowKit Go.Proofs.YtcllkemhlhbdgaaW.PrintWords Go.Proofs.YtcllkemhlhbdgaaW.PrintLast Go.Proofs.YtcllkemhlhbdgaaW.PrintMore
attribute [local go_sem] max2_int min2_int max_two min_two max_three min_three max_four min_four
set_option linter.unusedVariables false
set_option linter.unusedSimpArgs false
mutual
def spec_ProgOk.j0 : Nat → Bool → List (S_impl_Method) → Option (Bool)
  | 0, _, _ => none
  | k + 1, x16, x102000 => if x16 = true then (some false) else (spec_ProgOk.l0 k 0 x102000)
def spec_ProgOk.l0 : Nat → Int → List (S_impl_Method) → Option (Bool)
  | 0, _, _ => none
  | k + 1, x3, x102000 => if x3 < (x102000.length : Int) then (if 0 ≤ x3 then ((spec_l1Method.f k x102000 ((rd_impl_Method x102000 x3).f0) ((rd_impl_Method x102000 x3).f1) ((rd_impl_Method x102000 x3).f2)).bind fun t105 => (if t105 = true then (spec_ProgOk.l0 k (wrap64 (x3 + 1)) x102000) else (some false))) else (none)) else (some true)
end
def spec_ProgOk.f (k : Nat) (l0_0 : List (S_impl_Method)) : Option (Bool) := (spec_l6In.f (l0_0.length : Int) 1 4).bind fun t102 => (if t102 = true then (if 0 < (l0_0.length : Int) then (spec_ProgOk.j0 k (((rd_impl_Method l0_0 0).f0) != 0) l0_0) else (none)) else (spec_ProgOk.j0 k true l0_0))
theorem spec_ProgOk.mono_l : ∀ k, (∀ y0 y1, LeO (spec_ProgOk.j0 k y0 y1) (spec_ProgOk.j0 (k + 1) y0 y1)) ∧ (∀ y0 y1, LeO (spec_ProgOk.l0 k y0 y1) (spec_ProgOk.l0 (k + 1) y0 y1))
  | 0 => ⟨fun _ _ r h => by simp [spec_ProgOk.j0] at h, fun _ _ r h => by simp [spec_ProgOk.l0] at h⟩
  | k + 1 => by
    obtain ⟨ih0, ih1⟩ := spec_ProgOk.mono_l k
    refine ⟨?_, ?_⟩
    · intro y0 y1
      unfold spec_ProgOk.j0
      repeat' first
      | (with_reducible exact ih0 _ _)
      | (with_reducible exact ih1 _ _)
      | (with_reducible exact spec_l1Method.mono _ _ _ _ _)
      | (with_reducible exact LeO.refl _)
      | (with_reducible exact LeO.none _)
      | (with_reducible refine LeO.ite ?_ ?_)
      | (with_reducible refine LeO.bind ?_ (fun _ => ?_))
      | exact ih0 _ _
      | exact ih1 _ _
      | exact spec_l1Method.mono _ _ _ _ _
      | exact LeO.none _
      | refine LeO.ite ?_ ?_
      | refine LeO.bind ?_ (fun _ => ?_)
    · intro y0 y1
      unfold spec_ProgOk.l0
      repeat' first
      | (with_reducible exact ih0 _ _)
      | (with_reducible exact ih1 _ _)
      | (with_reducible exact spec_l1Method.mono _ _ _ _ _)
      | (with_reducible exact LeO.refl _)
      | (with_reducible exact LeO.none _)
      | (with_reducible refine LeO.ite ?_ ?_)
      | (with_reducible refine LeO.bind ?_ (fun _ => ?_))
      | exact ih0 _ _
      | exact ih1 _ _
      | exact spec_l1Method.mono _ _ _ _ _
      | exact LeO.none _
      | refine LeO.ite ?_ ?_
      | refine LeO.bind ?_ (fun _ => ?_)
theorem spec_ProgOk.mono : ∀ a0 k, LeO (spec_ProgOk.f k a0) (spec_ProgOk.f (k + 1) a0) := by
  intro a0 k
  obtain ⟨ih0, ih1⟩ := spec_ProgOk.mono_l k
  unfold spec_ProgOk.f
  repeat' first
      | (with_reducible exact ih0 _ _)
      | (with_reducible exact ih1 _ _)
      | (with_reducible exact spec_l1Method.mono _ _ _ _ _)
      | (with_reducible exact LeO.refl _)
      | (with_reducible exact LeO.none _)
      | (with_reducible refine LeO.ite ?_ ?_)
      | (with_reducible refine LeO.bind ?_ (fun _ => ?_))
      | exact ih0 _ _
      | exact ih1 _ _
      | exact spec_l1Method.mono _ _ _ _ _
      | exact LeO.none _
      | refine LeO.ite ?_ ?_
      | refine LeO.bind ?_ (fun _ => ?_)
def spec_ProgOk.T6 : Bool × List (List Nat × List Nat) := (true, [([], []), ([], []), ([1], [1]), ([], []), ([2, 3], [2, 3]), ([4], [4]), ([0, 5], [0, 5]), ([6], [6])])
def spec_ProgOk.B6 : List Nat := [0, 0, 2, 0, 14, 30, 63, 127]
theorem spec_ProgOk.tab6 : rtab .any (opsOf Try.f26 6) = spec_ProgOk.T6 := by kernel_rfl
theorem spec_ProgOk.bits6 : waitsOk spec_ProgOk.T6.2 spec_ProgOk.B6 = true := by kernel_rfl
set_option maxHeartbeats 8000000 in
set_option maxRecDepth 100000 in
theorem spec_ProgOk.calls (k : Nat) (A0_0 : Option Addr) (c0_0 : Nat) (l0_0 : List (S_impl_Method)) (r : Bool) (w : World) (hr0_0 : Kd.C k_impl_Method w A0_0 l0_0.length l0_0) (hc0_0 : l0_0.length ≤ c0_0) (h : spec_ProgOk.f k l0_0 = some r) :
    Calls Try.prog 26 #[.agg #[.slice A0_0 l0_0.length c0_0]] w fun e w' => e = .returned (.bool r) ∧ Below w.heap.size w w' := by
  have hu46 := Try.underlying46
  have hu59 := Try.underlying59
  have HR0_0 := Aside0.mk hr0_0
  have HC0_0 := Aside0.mk hc0_0
  clear hr0_0 hc0_0
  have HB := Aside0.mk (Below.refl w.heap.size w)
  have H : ((spec_l6In.f (l0_0.length : Int) 1 4).bind fun t102 => (if t102 = true then (if 0 < (l0_0.length : Int) then (spec_ProgOk.j0 k (((rd_impl_Method l0_0 0).f0) != 0) l0_0) else (none)) else (spec_ProgOk.j0 k true l0_0))) = some r := h
  clear h
  have HC2 := Aside0.mk H
  clear H
  go_enter Try.func26, Try.ntmps26
  go_upto_region 1 with (first | ((with_reducible refine gate_dst (N := 1) rfl ?_); refine box_event ?hg (N := 1) ?hd (cs := #[.slice A0_0 l0_0.length c0_0]) (t := 46) ?hr ?_; (case hd => rfl); (case hg => rfl); (case hr => first | (go_simp; done) | (go_simp; rfl)); intro gb101 hg w3 hbox hb; have n0_ := Aside0.mk (below_step (bw_) hb); have n1_ := Aside0.mk (hbox); have n2_ := Aside0.mk ((by rw [hg]; exact (below_size (bw_)) : w.heap.size ≤ gb101)); have n3_ := Aside0.mk ((by rw [hg]; exact (below_size (bw_)) : w.heap.size ≤ gb101)); clear HB; have HB := n0_; have BK101 := n1_; have GW101 := n2_; have GE101 := n3_; clear n0_ n1_ n2_ n3_; clear hb hbox hg))
  (try simp only [Act.put, List.setIfInBounds_toArray, List.set_cons_zero, List.set_cons_succ])
  go_cut [16] (fun v16 wc => ∃ (kq : Nat) (x16_1 : Bool), v16 = .bool x16_1 ∧ Aside0 (spec_ProgOk.j0 kq x16_1 l0_0 = some r) ∧ Aside0 (kq ≤ k) ∧ Aside0 (wc.heap[gb101]? = some (.cells #[(.slice A0_0 l0_0.length c0_0)] 46 (0, 0))) ∧ Aside0 (Below w.heap.size w wc))
  case first =>
    have H := HC2.out
    clear HC2
    replace H := Option.bind_eq_some_iff.mp H
    obtain ⟨t102, A40, H⟩ := H
    replace H : (if t102 = true then (if 0 < (l0_0.length : Int) then (spec_ProgOk.j0 k (((rd_impl_Method l0_0 0).f0) != 0) l0_0) else (none)) else (spec_ProgOk.j0 k true l0_0)) = some r := H
    have A4 := Aside0.mk A40
    clear A40
    by_cases c5 : t102 = true
    · subst c5
      have H1 : (if 0 < (l0_0.length : Int) then (spec_ProgOk.j0 k (((rd_impl_Method l0_0 0).f0) != 0) l0_0) else (none)) = some r := by rw [if_pos rfl] at H; exact H
      clear H
      have H := H1
      clear H1
      by_cases c6 : 0 < (l0_0.length : Int)
      · rw [if_pos c6] at H
        have c6b0 : decide (0 < (l0_0.length : Int)) = true := decide_eq_true c6
        have c6b1 : decide (0 < l0_0.length) = true := decide_eq_true (by omega)
        clear c6
        (first | rw [c6b0] | (simp only [i64_w, i32_w]; rw [c6b0]) | skip)
        have H' := Aside0.mk H
        clear H
        have hcz7_0 : w3.cell? ⟨gb101, 0, none⟩ = some (.slice A0_0 l0_0.length c0_0) := (blk_cell BK101.out 0).trans rfl
        have hfz7_0 := blk_frozen BK101.out 0
        go_wp2_with (first | ((with_reducible refine gate_callee (f := 57) rfl ?_); refine goesL_ (some 7) rfl rfl Try.func57 (by kernel_rfl) rfl #[.int .i64 (l0_0.length : Int), .int .i64 1, .int .i64 4] rfl (by (try simp only [List.map_toArray, List.map_cons, List.map_nil]); first | done | rfl | (simp only [List.length_drop, List.length_take]; rfl)) ?_; (with_reducible refine (spec_l6In.calls (l0_0.length : Int) 1 4 true _ A4.out).mono ?_); rintro e w' ⟨rfl, ⟨nd, rfl⟩⟩; refine ⟨_, rfl, ?_⟩; have p103 : 0 ≤ (0 : Int) := (by omega); have q103 : 0 < (l0_0.length : Int) := of_decide_eq_true (by first | (with_reducible assumption) | assumption); obtain ⟨ad103, A103_2, c103_2, e103, hx103_0, hx103_1, hx103_2, hl103_2, hi103_2⟩ := at_impl_Method HR0_0.out 0 p103 q103; cases e103; have qi103 : (0 < l0_0.length) = True := eq_true (by omega); (try rw [show ((0 : Int)).toNat = 0 from rfl] at hx103_0); (try rw [show 0 * 3 = 0 from rfl] at hx103_0); (try rw [Addr.add_zero'] at hx103_0); (try rw [show ((0 : Int)).toNat = 0 from rfl] at hx103_1); (try rw [show 0 * 3 = 0 from rfl] at hx103_1); (try rw [Addr.add_zero'] at hx103_1); (try rw [show ((0 : Int)).toNat = 0 from rfl] at hx103_2); (try rw [show 0 * 3 = 0 from rfl] at hx103_2); (try rw [Addr.add_zero'] at hx103_2); replace hx103_0 := (HB.out.cell (World.block_lt_of_cell? w _ hx103_0)).trans hx103_0; replace hx103_1 := (HB.out.cell (World.block_lt_of_cell? w _ hx103_1)).trans hx103_1; replace hx103_2 := (HB.out.cell (World.block_lt_of_cell? w _ hx103_2)).trans hx103_2; have HR103_2 := Aside0.mk hi103_2; have HC103_2 := Aside0.mk hl103_2; clear hi103_2 hl103_2; replace p103 := eq_true p103; replace q103 := eq_true q103))
        go_meet
        case rel => exact ⟨_, ((((rd_impl_Method l0_0 0).f0) != 0)), (by first | rfl | (simp; done) | (simp [*]; done)), H', ⟨by first | omega | exact Nat.le_refl _⟩, ⟨by (with_reducible repeat (first | refine blk_drewN ?_ _ | refine blk_drew ?_ | refine blk_alloc ?_ _)); exact BK101.out⟩, ⟨bw_⟩⟩
      · rw [if_neg c6] at H
        exact absurd H (by simp)
    · replace c5 := Bool.eq_false_iff.mpr c5
      subst c5
      have H1 : (spec_ProgOk.j0 k true l0_0) = some r := by rw [if_neg (show ¬ (false = true) by decide)] at H; exact H
      clear H
      have H := H1
      clear H1
      have H' := Aside0.mk H
      clear H
      have hcz8_0 : w3.cell? ⟨gb101, 0, none⟩ = some (.slice A0_0 l0_0.length c0_0) := (blk_cell BK101.out 0).trans rfl
      have hfz8_0 := blk_frozen BK101.out 0
      go_wp2_with (first | ((with_reducible refine gate_callee (f := 57) rfl ?_); refine goesL_ (some 7) rfl rfl Try.func57 (by kernel_rfl) rfl #[.int .i64 (l0_0.length : Int), .int .i64 1, .int .i64 4] rfl (by (try simp only [List.map_toArray, List.map_cons, List.map_nil]); first | done | rfl | (simp only [List.length_drop, List.length_take]; rfl)) ?_; (with_reducible refine (spec_l6In.calls (l0_0.length : Int) 1 4 false _ A4.out).mono ?_); rintro e w' ⟨rfl, ⟨nd, rfl⟩⟩; refine ⟨_, rfl, ?_⟩))
      go_meet
      case rel => exact ⟨_, (true), (by first | rfl | (simp; done) | (simp [*]; done)), H', ⟨by first | omega | exact Nat.le_refl _⟩, ⟨by (with_reducible repeat (first | refine blk_drewN ?_ _ | refine blk_drew ?_ | refine blk_alloc ?_ _)); exact BK101.out⟩, ⟨bw_⟩⟩
  case rest =>
    clear HC2
    try clear c1
    try clear p1
    try clear q1
    try clear hx1
    try clear qi1
    try clear c2
    try clear p2
    try clear c5
    try clear c6
    try clear c6b0
    try clear c6b1
    try clear hcz7_0
    try clear hcz8_0
    try clear hfz7_0
    try clear hfz8_0
    try clear hx103_0
    try clear hx103_1
    try clear hx103_2
    try clear p103
    try clear q103
    obtain ⟨kq, x16_1, rfl, HA, HJ1, BK101, HB⟩ := hcut
    cases kq with
    | zero => exact absurd HA.out (by simp [spec_ProgOk.j0])
    | succ kj1 =>
      have H := HA.out
      clear HA
      simp only [spec_ProgOk.j0] at H
      by_cases c9 : x16_1 = true
      · subst c9
        have H1 : (some false) = some r := by rw [if_pos rfl] at H; exact H
        clear H
        have H := H1
        clear H1
        obtain rfl := Option.some.inj H
        go_wp2
        go_ret
        exact ⟨by first | rfl | (simp [errW_none, errW_some] <;> rfl) | (simp [*, errW_none, errW_some] <;> rfl), bw_⟩
      · replace c9 := Bool.eq_false_iff.mpr c9
        subst c9
        have H1 : (spec_ProgOk.l0 kj1 0 l0_0) = some r := by rw [if_neg (show ¬ (false = true) by decide)] at H; exact H
        clear H
        have H := H1
        clear H1
        have H' := Aside0.mk H
        clear H
        go_wp2
        go_loopg [3] kj1 (fun kq v3 w' => ∃ (x3_2 : Int), v3 = .int .i64 x3_2 ∧ Aside0 (spec_ProgOk.l0 kq x3_2 l0_0 = some r) ∧ Aside0 (kq ≤ kj1) ∧ Aside0 (w'.heap[gb101]? = some (.cells #[(.slice A0_0 l0_0.length c0_0)] 46 (0, 0))) ∧ Aside0 (Below w.heap.size w w'))
        case atStart => exact ⟨(0), (by first | rfl | (simp; done) | (simp [*]; done)), H', ⟨Nat.le_refl _⟩, ⟨by (with_reducible repeat (first | refine blk_drewN ?_ _ | refine blk_drew ?_ | refine blk_alloc ?_ _)); exact BK101.out⟩, ⟨bw_⟩⟩
        case round =>
          clear H'
          try clear c1
          try clear p1
          try clear q1
          try clear hx1
          try clear qi1
          try clear c2
          try clear p2
          try clear c5
          try clear c6
          try clear c6b0
          try clear c6b1
          try clear c9
          try clear hcz7_0
          try clear hcz8_0
          try clear hfz7_0
          try clear hfz8_0
          try clear hx103_0
          try clear hx103_1
          try clear hx103_2
          try clear p1
          try clear p103
          try clear p2
          try clear q1
          try clear q103
          obtain ⟨x3_2, rfl, HA, HK2, BK101, HB⟩ := hrel
          cases gk with
          | zero => exact absurd HA.out (by simp [spec_ProgOk.l0])
          | succ k2 =>
            have H := HA.out
            clear HA
            simp only [spec_ProgOk.l0] at H
            by_cases c10 : x3_2 < (l0_0.length : Int)
            · rw [if_pos c10] at H
              have c10b0 : decide (x3_2 < (l0_0.length : Int)) = true := decide_eq_true c10
              clear c10
              by_cases c11 : 0 ≤ x3_2
              · rw [if_pos c11] at H
                have c11b0 : decide (0 ≤ x3_2) = true := decide_eq_true c11
                clear c11
                replace H := Option.bind_eq_some_iff.mp H
                obtain ⟨t105, A120, H⟩ := H
                replace H : (if t105 = true then (spec_ProgOk.l0 k2 (wrap64 (x3_2 + 1)) l0_0) else (some false)) = some r := H
                have A12 := Aside0.mk A120
                clear A120
                by_cases c13 : t105 = true
                · subst c13
                  have H1 : (spec_ProgOk.l0 k2 (wrap64 (x3_2 + 1)) l0_0) = some r := by rw [if_pos rfl] at H; exact H
                  clear H
                  have H := H1
                  clear H1
                  have H' := Aside0.mk H
                  clear H
                  have hcz14_0 : wr.cell? ⟨gb101, 0, none⟩ = some (.slice A0_0 l0_0.length c0_0) := (blk_cell BK101.out 0).trans rfl
                  have hfz14_0 := blk_frozen BK101.out 0
                  try go_wp2
                  have n0_ := Aside0.mk (blk_drew BK101.out)
                  have n1_ := Aside0.mk (below_drew1 HB.out)
                  clear BK101
                  clear HB
                  have BK101 := n0_
                  have HB := n1_
                  clear n0_ n1_
                  have p104 : 0 ≤ (x3_2 : Int) := of_decide_eq_true (by first | (with_reducible assumption) | assumption)
                  have q104 : x3_2 < (l0_0.length : Int) := of_decide_eq_true (by first | (with_reducible assumption) | assumption)
                  obtain ⟨ad104, A104_2, c104_2, e104, hx104_0, hx104_1, hx104_2, hl104_2, hi104_2⟩ := at_impl_Method HR0_0.out x3_2 p104 q104
                  have hw104_2 := hx104_2
                  have hw104_1 := hx104_1
                  have hw104_0 := hx104_0
                  cases e104
                  replace hx104_0 := (HB.out.cell (World.block_lt_of_cell? w _ hx104_0)).trans hx104_0
                  replace hx104_1 := (HB.out.cell (World.block_lt_of_cell? w _ hx104_1)).trans hx104_1
                  replace hx104_2 := (HB.out.cell (World.block_lt_of_cell? w _ hx104_2)).trans hx104_2
                  have HR104_2 := Aside0.mk hi104_2
                  have HC104_2 := Aside0.mk hl104_2
                  clear hi104_2 hl104_2
                  replace p104 := eq_true p104
                  replace q104 := eq_true q104
                  refine start_ (n := 8) (S := fun w' => w'.cell? ⟨gb101, 0, none⟩ = some (.slice (some ad104) l0_0.length c0_0) ∧ w'.cell? (ad104.add ((x3_2).toNat * 3)) = some (.int .i64 ((rd_impl_Method l0_0 x3_2).f0)) ∧ w'.cell? ⟨(ad104.add ((x3_2).toNat * 3)).block, (ad104.add ((x3_2).toNat * 3)).off + 1, none⟩ = some (.int .i64 ((rd_impl_Method l0_0 x3_2).f1)) ∧ w'.cell? ⟨(ad104.add ((x3_2).toNat * 3)).block, (ad104.add ((x3_2).toNat * 3)).off + 2, none⟩ = some (.slice A104_2 ((rd_impl_Method l0_0 x3_2).f2).length c104_2)) (ds := []) #[false, false, false, false, false, false, false, false] (by kernel_rfl) rfl rfl ⟨(blk_cell BK101.out 0).trans rfl, ((HB.out.cell (World.block_lt_of_cell? w _ hw104_0)).trans hw104_0), ((HB.out.cell (World.block_lt_of_cell? w _ hw104_1)).trans hw104_1), ((HB.out.cell (World.block_lt_of_cell? w _ hw104_2)).trans hw104_2)⟩ (fun hHeld => ?_); refine with_tabW spec_ProgOk.tab6 spec_ProgOk.bits6 (fun HT_ HW_ => ?_)
                  generalize wr.drew = w15 at BK101 HB HR104_2 hx104_0 hx104_1 hx104_2 hHeld ⊢
                  refine pure_ (i := 1) (N := some 25) (v := ?_) (a' := ?_) #[false, true, false, false, false, false, false, false] rfl rfl (any_of HT_.out (by kernel_rfl)) (fun _ _ _ h => h) (Or.inl ⟨by rfl, ?_⟩) ?_ ?_
                  rotate_left
                  · intro w'
                    go_simp
                    with_reducible rfl
                  rotate_left
                  · simp only [Act.put, List.setIfInBounds_toArray, List.set_cons_zero, List.set_cons_succ, i64_w, i32_w]
                    rfl
                  refine pure_ (i := 3) (N := some 27) (v := ?_) (a' := ?_) #[false, true, false, true, false, false, false, false] rfl rfl (any_of HT_.out (by kernel_rfl)) (fun _ _ _ h => h) (Or.inl ⟨by rfl, ?_⟩) ?_ ?_
                  rotate_left
                  · intro w'
                    go_simp
                    with_reducible rfl
                  rotate_left
                  · simp only [Act.put, List.setIfInBounds_toArray, List.set_cons_zero, List.set_cons_succ, i64_w, i32_w]
                    rfl
                  refine take_ (i := 0) (N := some 24) (v := ?_) (a' := ?_) #[true, true, false, true, false, false, false, false] rfl rfl (take_ofW HT_.out HW_.out (by kernel_rfl)) (fun _ _ _ h => h) (Or.inl ⟨by rfl, ?_⟩) hHeld ?_ ?_
                  rotate_left
                  · rintro w' ⟨s0, s1, s2, s3⟩
                    go_simp
                    with_reducible rfl
                  rotate_left
                  · simp only [Act.put, List.setIfInBounds_toArray, List.set_cons_zero, List.set_cons_succ, i64_w, i32_w]
                    rfl
                  refine take_ (i := 2) (N := some 26) (v := ?_) (a' := ?_) #[true, true, true, true, false, false, false, false] rfl rfl (take_ofW HT_.out HW_.out (by kernel_rfl)) (fun _ _ _ h => h) (Or.inl ⟨by rfl, ?_⟩) hHeld ?_ ?_
                  rotate_left
                  · rintro w' ⟨s0, s1, s2, s3⟩
                    go_simp
                    with_reducible rfl
                  rotate_left
                  · simp only [Act.put, List.setIfInBounds_toArray, List.set_cons_zero, List.set_cons_succ, i64_w, i32_w]
                    rfl
                  refine pure_ (i := 4) (N := some 28) (v := ?_) (a' := ?_) #[true, true, true, true, true, false, false, false] rfl rfl (any_of HT_.out (by kernel_rfl)) (fun _ _ _ h => h) (Or.inl ⟨by rfl, ?_⟩) ?_ ?_
                  rotate_left
                  · intro w'
                    go_simp
                    with_reducible rfl
                  rotate_left
                  · simp only [Act.put, List.setIfInBounds_toArray, List.set_cons_zero, List.set_cons_succ, i64_w, i32_w]
                    rfl
                  refine take_ (i := 5) (N := some 29) (v := ?_) (a' := ?_) #[true, true, true, true, true, true, false, false] rfl rfl (take_ofW HT_.out HW_.out (by kernel_rfl)) (fun _ _ _ h => h) (Or.inl ⟨by rfl, ?_⟩) hHeld ?_ ?_
                  rotate_left
                  · rintro w' ⟨s0, s1, s2, s3⟩
                    go_simp
                    with_reducible rfl
                  rotate_left
                  · simp only [Act.put, List.setIfInBounds_toArray, List.set_cons_zero, List.set_cons_succ, i64_w, i32_w]
                    rfl
                  refine one_ (i := 6) (N := some 30) #[true, true, true, true, true, true, true, false] rfl rfl (one_of HT_.out (by kernel_rfl)) (by decide) (fun K hK => ?_)
                  refine goes_ Try.func62 (by kernel_rfl) rfl #[.agg #[.slice (some ad104) l0_0.length c0_0], .agg #[.int .i64 ((rd_impl_Method l0_0 x3_2).f0), .int .i64 ((rd_impl_Method l0_0 x3_2).f1), .slice A104_2 ((rd_impl_Method l0_0 x3_2).f2).length c104_2]] (by rfl) rfl rfl (by (try simp only [List.map_toArray, List.map_cons, List.map_nil]); first | done | rfl | (simp only [List.length_drop, List.length_take]; rfl)) ?_
                  with_reducible refine (spec_l1Method.calls k2 _ _ l0_0 ((rd_impl_Method l0_0 x3_2).f0) ((rd_impl_Method l0_0 x3_2).f1) _ _ ((rd_impl_Method l0_0 x3_2).f2) true _ ?side1 ?side2 ?side3 ?side4 A12.out).mono ?_
                  (case side1 => exact cb_)
                  (case side2 => exact HC0_0.out)
                  (case side3 => exact cb_)
                  (case side4 => exact HC104_2.out)
                  rintro e w16 ⟨rfl, hb⟩
                  refine ⟨_, rfl, ?_⟩
                  have n0_ := Aside0.mk (blk_below (g := gb101) (o := .cells #[.slice (some ad104) l0_0.length c0_0] 46 (0, 0)) (by (with_reducible repeat (first | refine blk_drewN ?_ _ | refine blk_drew ?_ | refine blk_alloc ?_ _)); exact BK101.out) hb)
                  have n1_ := Aside0.mk (below_step (bw_) hb)
                  clear BK101
                  clear HB
                  have BK101 := n0_
                  have HB := n1_
                  clear n0_ n1_
                  (try clear hb)
                  (try clear hb2)
                  (try clear hk)
                  (try clear hi)
                  refine hK.out _ _ ⟨(blk_cell BK101.out 0).trans rfl, ((HB.out.cell (World.block_lt_of_cell? w _ hw104_0)).trans hw104_0), ((HB.out.cell (World.block_lt_of_cell? w _ hw104_1)).trans hw104_1), ((HB.out.cell (World.block_lt_of_cell? w _ hw104_2)).trans hw104_2)⟩ (fun hHeld => ?_)
                  clear hK K
                  refine norm_ (a' := ?_) ?_ ?_
                  rotate_left
                  · show Act.put _ (some 30) _ = _
                    simp only [Act.put, List.setIfInBounds_toArray, List.set_cons_zero, List.set_cons_succ, i64_w, i32_w]
                    rfl
                  refine pure_ (i := 7) (N := some 31) (v := ?_) (a' := ?_) #[true, true, true, true, true, true, true, true] rfl rfl (any_of HT_.out (by kernel_rfl)) (fun _ _ _ h => h) (Or.inl ⟨by rfl, ?_⟩) ?_ ?_
                  rotate_left
                  · intro w'
                    go_simp
                    with_reducible rfl
                  rotate_left
                  · simp only [Act.put, List.setIfInBounds_toArray, List.set_cons_zero, List.set_cons_succ, i64_w, i32_w]
                    rfl
                  refine done_ (done_of HT_.out (by kernel_rfl)) ?_
                  try go_wp2
                  go_roundg k2
                  case measure => have := HJ1.out; have := HK2.out; omega
                  case rel => exact ⟨(wrap64 (x3_2 + 1)), (by first | rfl | (simp; done) | (simp [*]; done)), H', ⟨by have := HJ1.out; have := HK2.out; omega⟩, ⟨by (with_reducible repeat (first | refine blk_drewN ?_ _ | refine blk_drew ?_ | refine blk_alloc ?_ _)); exact BK101.out⟩, ⟨bw_⟩⟩
                · replace c13 := Bool.eq_false_iff.mpr c13
                  subst c13
                  have H1 : (some false) = some r := by rw [if_neg (show ¬ (false = true) by decide)] at H; exact H
                  clear H
                  have H := H1
                  clear H1
                  obtain rfl := Option.some.inj H
                  have hcz17_0 : wr.cell? ⟨gb101, 0, none⟩ = some (.slice A0_0 l0_0.length c0_0) := (blk_cell BK101.out 0).trans rfl
                  have hfz17_0 := blk_frozen BK101.out 0
                  try go_wp2
                  have n0_ := Aside0.mk (blk_drew BK101.out)
                  have n1_ := Aside0.mk (below_drew1 HB.out)
                  clear BK101
                  clear HB
                  have BK101 := n0_
                  have HB := n1_
                  clear n0_ n1_
                  have p104 : 0 ≤ (x3_2 : Int) := of_decide_eq_true (by first | (with_reducible assumption) | assumption)
                  have q104 : x3_2 < (l0_0.length : Int) := of_decide_eq_true (by first | (with_reducible assumption) | assumption)
                  obtain ⟨ad104, A104_2, c104_2, e104, hx104_0, hx104_1, hx104_2, hl104_2, hi104_2⟩ := at_impl_Method HR0_0.out x3_2 p104 q104
                  have hw104_2 := hx104_2
                  have hw104_1 := hx104_1
                  have hw104_0 := hx104_0
                  cases e104
                  replace hx104_0 := (HB.out.cell (World.block_lt_of_cell? w _ hx104_0)).trans hx104_0
                  replace hx104_1 := (HB.out.cell (World.block_lt_of_cell? w _ hx104_1)).trans hx104_1
                  replace hx104_2 := (HB.out.cell (World.block_lt_of_cell? w _ hx104_2)).trans hx104_2
                  have HR104_2 := Aside0.mk hi104_2
                  have HC104_2 := Aside0.mk hl104_2
                  clear hi104_2 hl104_2
                  replace p104 := eq_true p104
                  replace q104 := eq_true q104
                  refine start_ (n := 8) (S := fun w' => w'.cell? ⟨gb101, 0, none⟩ = some (.slice (some ad104) l0_0.length c0_0) ∧ w'.cell? (ad104.add ((x3_2).toNat * 3)) = some (.int .i64 ((rd_impl_Method l0_0 x3_2).f0)) ∧ w'.cell? ⟨(ad104.add ((x3_2).toNat * 3)).block, (ad104.add ((x3_2).toNat * 3)).off + 1, none⟩ = some (.int .i64 ((rd_impl_Method l0_0 x3_2).f1)) ∧ w'.cell? ⟨(ad104.add ((x3_2).toNat * 3)).block, (ad104.add ((x3_2).toNat * 3)).off + 2, none⟩ = some (.slice A104_2 ((rd_impl_Method l0_0 x3_2).f2).length c104_2)) (ds := []) #[false, false, false, false, false, false, false, false] (by kernel_rfl) rfl rfl ⟨(blk_cell BK101.out 0).trans rfl, ((HB.out.cell (World.block_lt_of_cell? w _ hw104_0)).trans hw104_0), ((HB.out.cell (World.block_lt_of_cell? w _ hw104_1)).trans hw104_1), ((HB.out.cell (World.block_lt_of_cell? w _ hw104_2)).trans hw104_2)⟩ (fun hHeld => ?_); refine with_tabW spec_ProgOk.tab6 spec_ProgOk.bits6 (fun HT_ HW_ => ?_)
                  generalize wr.drew = w18 at BK101 HB HR104_2 hx104_0 hx104_1 hx104_2 hHeld ⊢
                  refine pure_ (i := 1) (N := some 25) (v := ?_) (a' := ?_) #[false, true, false, false, false, false, false, false] rfl rfl (any_of HT_.out (by kernel_rfl)) (fun _ _ _ h => h) (Or.inl ⟨by rfl, ?_⟩) ?_ ?_
                  rotate_left
                  · intro w'
                    go_simp
                    with_reducible rfl
                  rotate_left
                  · simp only [Act.put, List.setIfInBounds_toArray, List.set_cons_zero, List.set_cons_succ, i64_w, i32_w]
                    rfl
                  refine pure_ (i := 3) (N := some 27) (v := ?_) (a' := ?_) #[false, true, false, true, false, false, false, false] rfl rfl (any_of HT_.out (by kernel_rfl)) (fun _ _ _ h => h) (Or.inl ⟨by rfl, ?_⟩) ?_ ?_
                  rotate_left
                  · intro w'
                    go_simp
                    with_reducible rfl
                  rotate_left
                  · simp only [Act.put, List.setIfInBounds_toArray, List.set_cons_zero, List.set_cons_succ, i64_w, i32_w]
                    rfl
                  refine take_ (i := 0) (N := some 24) (v := ?_) (a' := ?_) #[true, true, false, true, false, false, false, false] rfl rfl (take_ofW HT_.out HW_.out (by kernel_rfl)) (fun _ _ _ h => h) (Or.inl ⟨by rfl, ?_⟩) hHeld ?_ ?_
                  rotate_left
                  · rintro w' ⟨s0, s1, s2, s3⟩
                    go_simp
                    with_reducible rfl
                  rotate_left
                  · simp only [Act.put, List.setIfInBounds_toArray, List.set_cons_zero, List.set_cons_succ, i64_w, i32_w]
                    rfl
                  refine take_ (i := 2) (N := some 26) (v := ?_) (a' := ?_) #[true, true, true, true, false, false, false, false] rfl rfl (take_ofW HT_.out HW_.out (by kernel_rfl)) (fun _ _ _ h => h) (Or.inl ⟨by rfl, ?_⟩) hHeld ?_ ?_
                  rotate_left
                  · rintro w' ⟨s0, s1, s2, s3⟩
                    go_simp
                    with_reducible rfl
                  rotate_left
                  · simp only [Act.put, List.setIfInBounds_toArray, List.set_cons_zero, List.set_cons_succ, i64_w, i32_w]
                    rfl
                  refine pure_ (i := 4) (N := some 28) (v := ?_) (a' := ?_) #[true, true, true, true, true, false, false, false] rfl rfl (any_of HT_.out (by kernel_rfl)) (fun _ _ _ h => h) (Or.inl ⟨by rfl, ?_⟩) ?_ ?_
                  rotate_left
                  · intro w'
                    go_simp
                    with_reducible rfl
                  rotate_left
                  · simp only [Act.put, List.setIfInBounds_toArray, List.set_cons_zero, List.set_cons_succ, i64_w, i32_w]
                    rfl
                  refine take_ (i := 5) (N := some 29) (v := ?_) (a' := ?_) #[true, true, true, true, true, true, false, false] rfl rfl (take_ofW HT_.out HW_.out (by kernel_rfl)) (fun _ _ _ h => h) (Or.inl ⟨by rfl, ?_⟩) hHeld ?_ ?_
                  rotate_left
                  · rintro w' ⟨s0, s1, s2, s3⟩
                    go_simp
                    with_reducible rfl
                  rotate_left
                  · simp only [Act.put, List.setIfInBounds_toArray, List.set_cons_zero, List.set_cons_succ, i64_w, i32_w]
                    rfl
                  refine one_ (i := 6) (N := some 30) #[true, true, true, true, true, true, true, false] rfl rfl (one_of HT_.out (by kernel_rfl)) (by decide) (fun K hK => ?_)
                  refine goes_ Try.func62 (by kernel_rfl) rfl #[.agg #[.slice (some ad104) l0_0.length c0_0], .agg #[.int .i64 ((rd_impl_Method l0_0 x3_2).f0), .int .i64 ((rd_impl_Method l0_0 x3_2).f1), .slice A104_2 ((rd_impl_Method l0_0 x3_2).f2).length c104_2]] (by rfl) rfl rfl (by (try simp only [List.map_toArray, List.map_cons, List.map_nil]); first | done | rfl | (simp only [List.length_drop, List.length_take]; rfl)) ?_
                  with_reducible refine (spec_l1Method.calls k2 _ _ l0_0 ((rd_impl_Method l0_0 x3_2).f0) ((rd_impl_Method l0_0 x3_2).f1) _ _ ((rd_impl_Method l0_0 x3_2).f2) false _ ?side1 ?side2 ?side3 ?side4 A12.out).mono ?_
                  (case side1 => exact cb_)
                  (case side2 => exact HC0_0.out)
                  (case side3 => exact cb_)
                  (case side4 => exact HC104_2.out)
                  rintro e w19 ⟨rfl, hb⟩
                  refine ⟨_, rfl, ?_⟩
                  have n0_ := Aside0.mk (blk_below (g := gb101) (o := .cells #[.slice (some ad104) l0_0.length c0_0] 46 (0, 0)) (by (with_reducible repeat (first | refine blk_drewN ?_ _ | refine blk_drew ?_ | refine blk_alloc ?_ _)); exact BK101.out) hb)
                  have n1_ := Aside0.mk (below_step (bw_) hb)
                  clear BK101
                  clear HB
                  have BK101 := n0_
                  have HB := n1_
                  clear n0_ n1_
                  (try clear hb)
                  (try clear hb2)
                  (try clear hk)
                  (try clear hi)
                  refine hK.out _ _ ⟨(blk_cell BK101.out 0).trans rfl, ((HB.out.cell (World.block_lt_of_cell? w _ hw104_0)).trans hw104_0), ((HB.out.cell (World.block_lt_of_cell? w _ hw104_1)).trans hw104_1), ((HB.out.cell (World.block_lt_of_cell? w _ hw104_2)).trans hw104_2)⟩ (fun hHeld => ?_)
                  clear hK K
                  refine norm_ (a' := ?_) ?_ ?_
                  rotate_left
                  · show Act.put _ (some 30) _ = _
                    simp only [Act.put, List.setIfInBounds_toArray, List.set_cons_zero, List.set_cons_succ, i64_w, i32_w]
                    rfl
                  refine pure_ (i := 7) (N := some 31) (v := ?_) (a' := ?_) #[true, true, true, true, true, true, true, true] rfl rfl (any_of HT_.out (by kernel_rfl)) (fun _ _ _ h => h) (Or.inl ⟨by rfl, ?_⟩) ?_ ?_
                  rotate_left
                  · intro w'
                    go_simp
                    with_reducible rfl
                  rotate_left
                  · simp only [Act.put, List.setIfInBounds_toArray, List.set_cons_zero, List.set_cons_succ, i64_w, i32_w]
                    rfl
                  refine done_ (done_of HT_.out (by kernel_rfl)) ?_
                  try go_wp2
                  go_ret
                  exact ⟨by first | rfl | (simp [errW_none, errW_some] <;> rfl) | (simp [*, errW_none, errW_some] <;> rfl), bw_⟩
              · rw [if_neg c11] at H
                exact absurd H (by simp)
            · rw [if_neg c10] at H
              have c10b0 : decide (x3_2 < (l0_0.length : Int)) = false := decide_eq_false c10
              clear c10
              obtain rfl := Option.some.inj H
              have hcz20_0 : wr.cell? ⟨gb101, 0, none⟩ = some (.slice A0_0 l0_0.length c0_0) := (blk_cell BK101.out 0).trans rfl
              have hfz20_0 := blk_frozen BK101.out 0
              go_wp2
              go_ret
              exact ⟨by first | rfl | (simp [errW_none, errW_some] <;> rfl) | (simp [*, errW_none, errW_some] <;> rfl), bw_⟩
end Go.Proofs.Ytcllkemhlhbdgaa.G
namespace Go.Proofs.Ytcllkemhlhbdgaa.G
open Go.RowKit Go.Proofs.YtcllkemhlhbdgaaW.PrintWords Go.Proofs.YtcllkemhlhbdgaaW.PrintLast Go.Proofs.YtcllkemhlhbdgaaW.PrintMore
attribute [local go_sem] max2_int min2_int max_two min_two max_three min_three max_four min_four
set_option linter.unusedVariables false
set_option linter.unusedSimpArgs false
mutual
def spec_OpTakes.j0 : Nat → Int → Bool → List (S_impl_Method) → Int → Int → Option (Int × Int)
  | 0, _, _, _, _, _ => none
  | k + 1, x7, x8, x102000, x103000, x103001 => if x8 = true then (some (0, 1)) else (if x7 = 3 then (spec_OpTakes.j1 k x7 (x7 == 3) x102000 x103000 x103001) else (if x7 = 4 then (spec_OpTakes.j1 k x7 (x7 == 4) x102000 x103000 x103001) else (if x7 = 8 then (spec_OpTakes.j1 k x7 (x7 == 8) x102000 x103000 x103001) else (if x7 = 10 then (spec_OpTakes.j1 k x7 (x7 == 10) x102000 x103000 x103001) else (spec_OpTakes.j1 k x7 (x7 == 16) x102000 x103000 x103001)))))
def spec_OpTakes.j1 : Nat → Int → Bool → List (S_impl_Method) → Int → Int → Option (Int × Int)
  | 0, _, _, _, _, _ => none
  | k + 1, x7, x12, x102000, x103000, x103001 => if x12 = true then (some (1, 0)) else (if x7 = 5 then (spec_OpTakes.j2 k x7 (x7 == 5) x102000 x103000 x103001) else (spec_OpTakes.j2 k x7 (x7 == 6) x102000 x103000 x103001))
def spec_OpTakes.j2 : Nat → Int → Bool → List (S_impl_Method) → Int → Int → Option (Int × Int)
  | 0, _, _, _, _, _ => none
  | k + 1, x7, x18, x102000, x103000, x103001 => if x18 = true then (some (2, 1)) else (if x7 = 12 then (spec_OpTakes.j3 k x7 (x7 == 12) x102000 x103000 x103001) else (if x7 = 13 then (spec_OpTakes.j3 k x7 (x7 == 13) x102000 x103000 x103001) else (if x7 = 17 then (spec_OpTakes.j3 k x7 (x7 == 17) x102000 x103000 x103001) else (spec_OpTakes.j3 k x7 (x7 == 18) x102000 x103000 x103001))))
def spec_OpTakes.j3 : Nat → Int → Bool → List (S_impl_Method) → Int → Int → Option (Int × Int)
  | 0, _, _, _, _, _ => none
  | k + 1, x7, x21, x102000, x103000, x103001 => if x21 = true then (some (1, 1)) else (if x7 = 14 then (some (2, 0)) else (if x7 = 15 then (some (2, 1)) else (if x7 = 9 then ((spec_l6In.f x103001 0 (wrap64 ((x102000.length : Int) - 1))).bind fun t103 => (if t103 = true then (if 0 ≤ x103001 then (if x103001 < (x102000.length : Int) then (some ((rd_impl_Method x102000 x103001).f0, 1)) else (none)) else (none)) else (some (0, 0)))) else (some (0, 0)))))
end
def spec_OpTakes.f (k : Nat) (l0_0 : List (S_impl_Method)) (a1_0 : Int) (a1_1 : Int) : Option (Int × Int) := if a1_0 = 1 then (spec_OpTakes.j0 k a1_0 (a1_0 == 1) l0_0 a1_0 a1_1) else (if a1_0 = 2 then (spec_OpTakes.j0 k a1_0 (a1_0 == 2) l0_0 a1_0 a1_1) else (spec_OpTakes.j0 k a1_0 (a1_0 == 11) l0_0 a1_0 a1_1))
theorem spec_OpTakes.mono_l : ∀ k, (∀ y0 y1 y2 y3 y4, LeO (spec_OpTakes.j0 k y0 y1 y2 y3 y4) (spec_OpTakes.j0 (k + 1) y0 y1 y2 y3 y4)) ∧ (∀ y0 y1 y2 y3 y4, LeO (spec_OpTakes.j1 k y0 y1 y2 y3 y4) (spec_OpTakes.j1 (k + 1) y0 y1 y2 y3 y4)) ∧ (∀ y0 y1 y2 y3 y4, LeO (spec_OpTakes.j2 k y0 y1 y2 y3 y4) (spec_OpTakes.j2 (k + 1) y0 y1 y2 y3 y4)) ∧ (∀ y0 y1 y2 y3 y4, LeO (spec_OpTakes.j3 k y0 y1 y2 y3 y4) (spec_OpTakes.j3 (k + 1) y0 y1 y2 y3 y4))
  | 0 => ⟨fun _ _ _ _ _ r h => by simp [spec_OpTakes.j0] at h, fun _ _ _ _ _ r h => by simp [spec_OpTakes.j1] at h, fun _ _ _ _ _ r h => by simp [spec_OpTakes.j2] at h, fun _ _ _ _ _ r h => by simp [spec_OpTakes.j3] at h⟩
  | k + 1 => by
    obtain ⟨ih0, ih1, ih2, ih3⟩ := spec_OpTakes.mono_l k
    refine ⟨?_, ?_, ?_, ?_⟩
    · intro y0 y1 y2 y3 y4
      unfold spec_OpTakes.j0
      repeat' first
      | (with_reducible exact ih0 _ _ _ _ _)
      | (with_reducible exact ih1 _ _ _ _ _)
      | (with_reducible exact ih2 _ _ _ _ _)
      | (with_reducible exact ih3 _ _ _ _ _)
      | (with_reducible exact LeO.refl _)
      | (with_reducible exact LeO.none _)
      | (with_reducible refine LeO.ite ?_ ?_)
      | (with_reducible refine LeO.bind ?_ (fun _ => ?_))
      | exact ih0 _ _ _ _ _
      | exact ih1 _ _ _ _ _
      | exact ih2 _ _ _ _ _
      | exact ih3 _ _ _ _ _
      | exact LeO.none _
      | refine LeO.ite ?_ ?_
      | refine LeO.bind ?_ (fun _ => ?_)
    · intro y0 y1 y2 y3 y4
      unfold spec_OpTakes.j1
      repeat' first
      | (with_reducible exact ih0 _ _ _ _ _)
      | (with_reducible exact ih1 _ _ _ _ _)
      | (with_reducible exact ih2 _ _ _ _ _)
      | (with_reducible exact ih3 _ _ _ _ _)
      | (with_reducible exact LeO.refl _)
      | (with_reducible exact LeO.none _)
      | (with_reducible refine LeO.ite ?_ ?_)
      | (with_reducible refine LeO.bind ?_ (fun _ => ?_))
      | exact ih0 _ _ _ _ _
      | exact ih1 _ _ _ _ _
      | exact ih2 _ _ _ _ _
      | exact ih3 _ _ _ _ _
      | exact LeO.none _
      | refine LeO.ite ?_ ?_
      | refine LeO.bind ?_ (fun _ => ?_)
    · intro y0 y1 y2 y3 y4
      unfold spec_OpTakes.j2
      repeat' first
      | (with_reducible exact ih0 _ _ _ _ _)
      | (with_reducible exact ih1 _ _ _ _ _)
      | (with_reducible exact ih2 _ _ _ _ _)
      | (with_reducible exact ih3 _ _ _ _ _)
      | (with_reducible exact LeO.refl _)
      | (with_reducible exact LeO.none _)
      | (with_reducible refine LeO.ite ?_ ?_)
      | (with_reducible refine LeO.bind ?_ (fun _ => ?_))
      | exact ih0 _ _ _ _ _
      | exact ih1 _ _ _ _ _
      | exact ih2 _ _ _ _ _
      | exact ih3 _ _ _ _ _
      | exact LeO.none _
      | refine LeO.ite ?_ ?_
      | refine LeO.bind ?_ (fun _ => ?_)
    · intro y0 y1 y2 y3 y4
      unfold spec_OpTakes.j3
      repeat' first
      | (with_reducible exact ih0 _ _ _ _ _)
      | (with_reducible exact ih1 _ _ _ _ _)
      | (with_reducible exact ih2 _ _ _ _ _)
      | (with_reducible exact ih3 _ _ _ _ _)
      | (with_reducible exact LeO.refl _)
      | (with_reducible exact LeO.none _)
      | (with_reducible refine LeO.ite ?_ ?_)
      | (with_reducible refine LeO.bind ?_ (fun _ => ?_))
      | exact ih0 _ _ _ _ _
      | exact ih1 _ _ _ _ _
      | exact ih2 _ _ _ _ _
      | exact ih3 _ _ _ _ _
      | exact LeO.none _
      | refine LeO.ite ?_ ?_
      | refine LeO.bind ?_ (fun _ => ?_)
theorem spec_OpTakes.mono : ∀ a0 a1 a2 k, LeO (spec_OpTakes.f k a0 a1 a2) (spec_OpTakes.f (k + 1) a0 a1 a2) := by
  intro a0 a1 a2 k
  obtain ⟨ih0, ih1, ih2, ih3⟩ := spec_OpTakes.mono_l k
  unfold spec_OpTakes.f
  repeat' first
      | (with_reducible exact ih0 _ _ _ _ _)
      | (with_reducible exact ih1 _ _ _ _ _)
      | (with_reducible exact ih2 _ _ _ _ _)
      | (with_reducible exact ih3 _ _ _ _ _)
      | (with_reducible exact LeO.refl _)
      | (with_reducible exact LeO.none _)
      | (with_reducible refine LeO.ite ?_ ?_)
      | (with_reducible refine LeO.bind ?_ (fun _ => ?_))
      | exact ih0 _ _ _ _ _
      | exact ih1 _ _ _ _ _
      | exact ih2 _ _ _ _ _
      | exact ih3 _ _ _ _ _
      | exact LeO.none _
      | refine LeO.ite ?_ ?_
      | refine LeO.bind ?_ (fun _ => ?_)
set_option maxHeartbeats 8000000 in
set_option maxRecDepth 100000 in
theorem spec_OpTakes.calls (k : Nat) (A0_0 : Option Addr) (c0_0 : Nat) (l0_0 : List (S_impl_Method)) (a1_0 : Int) (a1_1 : Int) (r1 : Int) (r2 : Int) (w : World) (hr0_0 : Kd.C k_impl_Method w A0_0 l0_0.length l0_0) (hc0_0 : l0_0.length ≤ c0_0) (h : spec_OpTakes.f k l0_0 a1_0 a1_1 = some (r1, r2)) :
    Calls Try.prog 21 #[.agg #[.slice A0_0 l0_0.length c0_0], .agg #[.int .i64 a1_0, .int .i64 a1_1]] w fun e w' => e = .returned (.tuple #[.int .i64 r1, .int .i64 r2]) ∧ Below w.heap.size w w' := by
  have hu46 := Try.underlying46
  have hu48 := Try.underlying48
  have HR0_0 := Aside0.mk hr0_0
  have HC0_0 := Aside0.mk hc0_0
  clear hr0_0 hc0_0
  have HB := Aside0.mk (Below.refl w.heap.size w)
  have H : (if a1_0 = 1 then (spec_OpTakes.j0 k a1_0 (a1_0 == 1) l0_0 a1_0 a1_1) else (if a1_0 = 2 then (spec_OpTakes.j0 k a1_0 (a1_0 == 2) l0_0 a1_0 a1_1) else (spec_OpTakes.j0 k a1_0 (a1_0 == 11) l0_0 a1_0 a1_1))) = some (r1, r2) := h
  clear h
  have HC3 := Aside0.mk H
  clear H
  go_enter Try.func21, Try.ntmps21
  go_upto_if 8 with (first | ((with_reducible refine gate_dst (N := 2) rfl ?_); refine box_event ?hg (N := 2) ?hd (cs := #[.slice A0_0 l0_0.length c0_0]) (t := 46) ?hr ?_; (case hd => rfl); (case hg => rfl); (case hr => first | (go_simp; done) | (go_simp; rfl)); intro gb101 hg w4 hbox hb; have n0_ := Aside0.mk (below_step (bw_) hb); have n1_ := Aside0.mk (hbox); have n2_ := Aside0.mk ((by rw [hg]; exact (below_size (bw_)) : w.heap.size ≤ gb101)); have n3_ := Aside0.mk ((by rw [hg]; exact (below_size (bw_)) : w.heap.size ≤ gb101)); clear HB; have HB := n0_; have BK101 := n1_; have GW101 := n2_; have GE101 := n3_; clear n0_ n1_ n2_ n3_; clear hb hbox hg) | ((with_reducible refine gate_dst (N := 3) rfl ?_); refine box_event ?hg (N := 3) ?hd (cs := #[.int .i64 a1_0, .int .i64 a1_1]) (t := 48) ?hr ?_; (case hd => rfl); (case hg => rfl); (case hr => first | (go_simp; done) | (go_simp; rfl)); intro gb102 hg w5 hbox hb; have n0_ := Aside0.mk (blk_below (g := gb101) (o := .cells #[.slice A0_0 l0_0.length c0_0] 46 (0, 0)) (by (with_reducible repeat (first | refine blk_drewN ?_ _ | refine blk_drew ?_ | refine blk_alloc ?_ _)); exact BK101.out) hb); have n1_ := Aside0.mk (below_step (bw_) hb); have n2_ := Aside0.mk (hbox); have n3_ := Aside0.mk ((by rw [hg]; exact (below_size (bw_)) : w.heap.size ≤ gb102)); have n4_ := Aside0.mk ((by rw [hg]; exact (below_size (bw_)) : w.heap.size ≤ gb102)); have n5_ := Aside0.mk ((by rw [hg]; exact Nat.ne_of_lt (blk_lt (g := gb101) (o := .cells #[.slice A0_0 l0_0.length c0_0] 46 (0, 0)) (by (with_reducible repeat (first | refine blk_drewN ?_ _ | refine blk_drew ?_ | refine blk_alloc ?_ _)); exact BK101.out)) : gb101 ≠ gb102)); have n6_ := Aside0.mk ((by rw [hg]; exact Nat.ne_of_gt (blk_lt (g := gb101) (o := .cells #[.slice A0_0 l0_0.length c0_0] 46 (0, 0)) (by (with_reducible repeat (first | refine blk_drewN ?_ _ | refine blk_drew ?_ | refine blk_alloc ?_ _)); exact BK101.out)) : gb102 ≠ gb101)); clear BK101; clear HB; have BK101 := n0_; have HB := n1_; have BK102 := n2_; have GW102 := n3_; have GE102 := n4_; have NB101_102 := n5_; have NB102_101 := n6_; clear n0_ n1_ n2_ n3_ n4_ n5_ n6_; clear hb hbox hg; have hnb6 := NB102_101.out; have hnc6 := NB101_102.out; obtain ⟨hcz7_0, hcz7_1, hfz7_0, hfz7_1⟩ := blkF2_ BK102.out))
  (try simp only [Act.put, List.setIfInBounds_toArray, List.set_cons_zero, List.set_cons_succ])
  go_cut [8] (fun v8 wc => ∃ (kq : Nat) (x8_2 : Bool), v8 = .bool x8_2 ∧ Aside0 (spec_OpTakes.j0 kq a1_0 x8_2 l0_0 a1_0 a1_1 = some (r1, r2)) ∧ Aside0 (kq ≤ k) ∧ Aside0 (wc.heap[gb101]? = some (.cells #[(.slice A0_0 l0_0.length c0_0)] 46 (0, 0))) ∧ Aside0 (wc.heap[gb102]? = some (.cells #[.int .i64 a1_0, .int .i64 a1_1] 48 (0, 0))) ∧ Aside0 (Below w.heap.size w wc))
  case first =>
    have H := HC3.out
    clear HC3
    by_cases c8 : a1_0 = 1
    · rw [if_pos c8] at H
      have c8b0 : (a1_0 == 1) = true := beq_iff_eq.mpr c8
      have c8b1 : (a1_0 != 1) = false := bne_eq_false_iff_eq.mpr c8
      clear c8
      (first | rw [c8b0] | (simp only [i64_w, i32_w]; rw [c8b0]) | skip)
      have H' := Aside0.mk H
      clear H
      go_wp2
      go_meet
      case rel => exact ⟨_, ((a1_0 == 1)), (by first | rfl | (simp; done) | (simp [*]; done)), H', ⟨by first | omega | exact Nat.le_refl _⟩, ⟨by (with_reducible repeat (first | refine blk_drewN ?_ _ | refine blk_drew ?_ | refine blk_alloc ?_ _)); exact BK101.out⟩, ⟨by (with_reducible repeat (first | refine blk_drewN ?_ _ | refine blk_drew ?_ | refine blk_alloc ?_ _)); exact BK102.out⟩, ⟨bw_⟩⟩
    · rw [if_neg c8] at H
      have c8b0 : (a1_0 == 1) = false := beq_eq_false_iff_ne.mpr c8
      have c8b1 : (a1_0 != 1) = true := bne_iff_ne.mpr c8
      (first | rw [c8b0] | (simp only [i64_w, i32_w]; rw [c8b0]) | skip)
      by_cases c9 : a1_0 = 2
      · rw [if_pos c9] at H
        have c9b0 : (a1_0 == 2) = true := beq_iff_eq.mpr c9
        have c9b1 : (a1_0 != 2) = false := bne_eq_false_iff_eq.mpr c9
        clear c9
        have H' := Aside0.mk H
        clear H
        go_wp2
        go_meet
        case rel => exact ⟨_, ((a1_0 == 2)), (by first | rfl | (simp; done) | (simp [*]; done)), H', ⟨by first | omega | exact Nat.le_refl _⟩, ⟨by (with_reducible repeat (first | refine blk_drewN ?_ _ | refine blk_drew ?_ | refine blk_alloc ?_ _)); exact BK101.out⟩, ⟨by (with_reducible repeat (first | refine blk_drewN ?_ _ | refine blk_drew ?_ | refine blk_alloc ?_ _)); exact BK102.out⟩, ⟨bw_⟩⟩
      · rw [if_neg c9] at H
        have c9b0 : (a1_0 == 2) = false := beq_eq_false_iff_ne.mpr c9
        have c9b1 : (a1_0 != 2) = true := bne_iff_ne.mpr c9
        have H' := Aside0.mk H
        clear H
        go_wp2
        go_meet
        case rel => exact ⟨_, ((a1_0 == 11)), (by first | rfl | (simp; done) | (simp [*]; done)), H', ⟨by first | omega | exact Nat.le_refl _⟩, ⟨by (with_reducible repeat (first | refine blk_drewN ?_ _ | refine blk_drew ?_ | refine blk_alloc ?_ _)); exact BK101.out⟩, ⟨by (with_reducible repeat (first | refine blk_drewN ?_ _ | refine blk_drew ?_ | refine blk_alloc ?_ _)); exact BK102.out⟩, ⟨bw_⟩⟩
  case rest =>
    clear HC3
    try clear c2
    try clear p2
    try clear c6
    try clear c8
    try clear c8b0
    try clear c8b1
    try clear c9
    try clear c9b0
    try clear c9b1
    try clear hcz7_0
    try clear hcz7_1
    try clear hfz7_0
    try clear hfz7_1
    obtain ⟨kq, x8_2, rfl, HA, HJ2, BK101, BK102, HB⟩ := hcut
    cases kq with
    | zero => exact absurd HA.out (by simp [spec_OpTakes.j0])
    | succ kj2 =>
      have H := HA.out
      clear HA
      simp only [spec_OpTakes.j0] at H
      by_cases c10 : x8_2 = true
      · subst c10
        have H1 : (some (0, 1)) = some (r1, r2) := by rw [if_pos rfl] at H; exact H
        clear H
        have H := H1
        clear H1
        simp only [Option.some.injEq, Prod.mk.injEq] at H
        obtain ⟨rfl, rfl⟩ := H
        go_wp2
        go_ret2
        exact ⟨by first | rfl | (simp [errW_none, errW_some] <;> rfl) | (simp [*, errW_none, errW_some] <;> rfl), bw_⟩
      · replace c10 := Bool.eq_false_iff.mpr c10
        subst c10
        have H1 : (if a1_0 = 3 then (spec_OpTakes.j1 kj2 a1_0 (a1_0 == 3) l0_0 a1_0 a1_1) else (if a1_0 = 4 then (spec_OpTakes.j1 kj2 a1_0 (a1_0 == 4) l0_0 a1_0 a1_1) else (if a1_0 = 8 then (spec_OpTakes.j1 kj2 a1_0 (a1_0 == 8) l0_0 a1_0 a1_1) else (if a1_0 = 10 then (spec_OpTakes.j1 kj2 a1_0 (a1_0 == 10) l0_0 a1_0 a1_1) else (spec_OpTakes.j1 kj2 a1_0 (a1_0 == 16) l0_0 a1_0 a1_1))))) = some (r1, r2) := by rw [if_neg (show ¬ (false = true) by decide)] at H; exact H
        clear H
        have H := H1
        clear H1
        have HC11 := Aside0.mk H
        clear H
        go_upto_if 12 with (fail)
        go_cut [12] (fun v12 wc => ∃ (kq : Nat) (x12_10 : Bool), v12 = .bool x12_10 ∧ Aside0 (spec_OpTakes.j1 kq a1_0 x12_10 l0_0 a1_0 a1_1 = some (r1, r2)) ∧ Aside0 (kq ≤ kj2) ∧ Aside0 (wc.heap[gb101]? = some (.cells #[(.slice A0_0 l0_0.length c0_0)] 46 (0, 0))) ∧ Aside0 (wc.heap[gb102]? = some (.cells #[.int .i64 a1_0, .int .i64 a1_1] 48 (0, 0))) ∧ Aside0 (Below w.heap.size w wc))
        case first =>
          have H := HC11.out
          clear HC11
          by_cases c12 : a1_0 = 3
          · rw [if_pos c12] at H
            have c12b0 : (a1_0 == 3) = true := beq_iff_eq.mpr c12
            have c12b1 : (a1_0 != 3) = false := bne_eq_false_iff_eq.mpr c12
            clear c12
            (first | rw [c12b0] | (simp only [i64_w, i32_w]; rw [c12b0]) | skip)
            have H' := Aside0.mk H
            clear H
            go_wp2
            go_meet
            case rel => exact ⟨_, ((a1_0 == 3)), (by first | rfl | (simp; done) | (simp [*]; done)), H', ⟨by have := HJ2.out; first | omega | exact Nat.le_refl _⟩, ⟨by (with_reducible repeat (first | refine blk_drewN ?_ _ | refine blk_drew ?_ | refine blk_alloc ?_ _)); exact BK101.out⟩, ⟨by (with_reducible repeat (first | refine blk_drewN ?_ _ | refine blk_drew ?_ | refine blk_alloc ?_ _)); exact BK102.out⟩, ⟨bw_⟩⟩
          · rw [if_neg c12] at H
            have c12b0 : (a1_0 == 3) = false := beq_eq_false_iff_ne.mpr c12
            have c12b1 : (a1_0 != 3) = true := bne_iff_ne.mpr c12
            (first | rw [c12b0] | (simp only [i64_w, i32_w]; rw [c12b0]) | skip)
            by_cases c13 : a1_0 = 4
            · rw [if_pos c13] at H
              have c13b0 : (a1_0 == 4) = true := beq_iff_eq.mpr c13
              have c13b1 : (a1_0 != 4) = false := bne_eq_false_iff_eq.mpr c13
              clear c13
              have H' := Aside0.mk H
              clear H
              go_wp2
              go_meet
              case rel => exact ⟨_, ((a1_0 == 4)), (by first | rfl | (simp; done) | (simp [*]; done)), H', ⟨by have := HJ2.out; first | omega | exact Nat.le_refl _⟩, ⟨by (with_reducible repeat (first | refine blk_drewN ?_ _ | refine blk_drew ?_ | refine blk_alloc ?_ _)); exact BK101.out⟩, ⟨by (with_reducible repeat (first | refine blk_drewN ?_ _ | refine blk_drew ?_ | refine blk_alloc ?_ _)); exact BK102.out⟩, ⟨bw_⟩⟩
            · rw [if_neg c13] at H
              have c13b0 : (a1_0 == 4) = false := beq_eq_false_iff_ne.mpr c13
              have c13b1 : (a1_0 != 4) = true := bne_iff_ne.mpr c13
              by_cases c14 : a1_0 = 8
              · rw [if_pos c14] at H
                have c14b0 : (a1_0 == 8) = true := beq_iff_eq.mpr c14
                have c14b1 : (a1_0 != 8) = false := bne_eq_false_iff_eq.mpr c14
                clear c14
                have H' := Aside0.mk H
                clear H
                go_wp2
                go_meet
                case rel => exact ⟨_, ((a1_0 == 8)), (by first | rfl | (simp; done) | (simp [*]; done)), H', ⟨by have := HJ2.out; first | omega | exact Nat.le_refl _⟩, ⟨by (with_reducible repeat (first | refine blk_drewN ?_ _ | refine blk_drew ?_ | refine blk_alloc ?_ _)); exact BK101.out⟩, ⟨by (with_reducible repeat (first | refine blk_drewN ?_ _ | refine blk_drew ?_ | refine blk_alloc ?_ _)); exact BK102.out⟩, ⟨bw_⟩⟩
              · rw [if_neg c14] at H
                have c14b0 : (a1_0 == 8) = false := beq_eq_false_iff_ne.mpr c14
                have c14b1 : (a1_0 != 8) = true := bne_iff_ne.mpr c14
                by_cases c15 : a1_0 = 10
                · rw [if_pos c15] at H
                  have c15b0 : (a1_0 == 10) = true := beq_iff_eq.mpr c15
                  have c15b1 : (a1_0 != 10) = false := bne_eq_false_iff_eq.mpr c15
                  clear c15
                  have H' := Aside0.mk H
                  clear H
                  go_wp2
                  go_meet
                  case rel => exact ⟨_, ((a1_0 == 10)), (by first | rfl | (simp; done) | (simp [*]; done)), H', ⟨by have := HJ2.out; first | omega | exact Nat.le_refl _⟩, ⟨by (with_reducible repeat (first | refine blk_drewN ?_ _ | refine blk_drew ?_ | refine blk_alloc ?_ _)); exact BK101.out⟩, ⟨by (with_reducible repeat (first | refine blk_drewN ?_ _ | refine blk_drew ?_ | refine blk_alloc ?_ _)); exact BK102.out⟩, ⟨bw_⟩⟩
                · rw [if_neg c15] at H
                  have c15b0 : (a1_0 == 10) = false := beq_eq_false_iff_ne.mpr c15
                  have c15b1 : (a1_0 != 10) = true := bne_iff_ne.mpr c15
                  have H' := Aside0.mk H
                  clear H
                  go_wp2
                  go_meet
                  case rel => exact ⟨_, ((a1_0 == 16)), (by first | rfl | (simp; done) | (simp [*]; done)), H', ⟨by have := HJ2.out; first | omega | exact Nat.le_refl _⟩, ⟨by (with_reducible repeat (first | refine blk_drewN ?_ _ | refine blk_drew ?_ | refine blk_alloc ?_ _)); exact BK101.out⟩, ⟨by (with_reducible repeat (first | refine blk_drewN ?_ _ | refine blk_drew ?_ | refine blk_alloc ?_ _)); exact BK102.out⟩, ⟨bw_⟩⟩
        case rest =>
          clear HC11
          try clear c1
          try clear c2
          try clear p2
          try clear c6
          try clear c8
          try clear c8b0
          try clear c8b1
          try clear c9
          try clear c9b0
          try clear c9b1
          try clear c10
          try clear c12
          try clear c12b0
          try clear c12b1
          try clear c13
          try clear c13b0
          try clear c13b1
          try clear c14
          try clear c14b0
          try clear c14b1
          try clear c15
          try clear c15b0
          try clear c15b1
          try clear hcz7_0
          try clear hcz7_1
          try clear hfz7_0
          try clear hfz7_1
          try clear p2
          obtain ⟨kq, x12_10, rfl, HA, HJ10, BK101, BK102, HB⟩ := hcut
          cases kq with
          | zero => exact absurd HA.out (by simp [spec_OpTakes.j1])
          | succ kj10 =>
            have H := HA.out
            clear HA
            simp only [spec_OpTakes.j1] at H
            by_cases c16 : x12_10 = true
            · subst c16
              have H1 : (some (1, 0)) = some (r1, r2) := by rw [if_pos rfl] at H; exact H
              clear H
              have H := H1
              clear H1
              simp only [Option.some.injEq, Prod.mk.injEq] at H
              obtain ⟨rfl, rfl⟩ := H
              go_wp2
              go_ret2
              exact ⟨by first | rfl | (simp [errW_none, errW_some] <;> rfl) | (simp [*, errW_none, errW_some] <;> rfl), bw_⟩
            · replace c16 := Bool.eq_false_iff.mpr c16
              subst c16
              have H1 : (if a1_0 = 5 then (spec_OpTakes.j2 kj10 a1_0 (a1_0 == 5) l0_0 a1_0 a1_1) else (spec_OpTakes.j2 kj10 a1_0 (a1_0 == 6) l0_0 a1_0 a1_1)) = some (r1, r2) := by rw [if_neg (show ¬ (false = true) by decide)] at H; exact H
              clear H
              have H := H1
              clear H1
              have HC17 := Aside0.mk H
              clear H
              go_upto_if 18 with (fail)
              go_cut [18] (fun v18 wc => ∃ (kq : Nat) (x18_16 : Bool), v18 = .bool x18_16 ∧ Aside0 (spec_OpTakes.j2 kq a1_0 x18_16 l0_0 a1_0 a1_1 = some (r1, r2)) ∧ Aside0 (kq ≤ kj10) ∧ Aside0 (wc.heap[gb101]? = some (.cells #[(.slice A0_0 l0_0.length c0_0)] 46 (0, 0))) ∧ Aside0 (wc.heap[gb102]? = some (.cells #[.int .i64 a1_0, .int .i64 a1_1] 48 (0, 0))) ∧ Aside0 (Below w.heap.size w wc))
              case first =>
                have H := HC17.out
                clear HC17
                by_cases c18 : a1_0 = 5
                · rw [if_pos c18] at H
                  have c18b0 : (a1_0 == 5) = true := beq_iff_eq.mpr c18
                  have c18b1 : (a1_0 != 5) = false := bne_eq_false_iff_eq.mpr c18
                  clear c18
                  (first | rw [c18b0] | (simp only [i64_w, i32_w]; rw [c18b0]) | skip)
                  have H' := Aside0.mk H
                  clear H
                  go_wp2
                  go_meet
                  case rel => exact ⟨_, ((a1_0 == 5)), (by first | rfl | (simp; done) | (simp [*]; done)), H', ⟨by have := HJ2.out; have := HJ10.out; first | omega | exact Nat.le_refl _⟩, ⟨by (with_reducible repeat (first | refine blk_drewN ?_ _ | refine blk_drew ?_ | refine blk_alloc ?_ _)); exact BK101.out⟩, ⟨by (with_reducible repeat (first | refine blk_drewN ?_ _ | refine blk_drew ?_ | refine blk_alloc ?_ _)); exact BK102.out⟩, ⟨bw_⟩⟩
                · rw [if_neg c18] at H
                  have c18b0 : (a1_0 == 5) = false := beq_eq_false_iff_ne.mpr c18
                  have c18b1 : (a1_0 != 5) = true := bne_iff_ne.mpr c18
                  (first | rw [c18b0] | (simp only [i64_w, i32_w]; rw [c18b0]) | skip)
                  have H' := Aside0.mk H
                  clear H
                  go_wp2
                  go_meet
                  case rel => exact ⟨_, ((a1_0 == 6)), (by first | rfl | (simp; done) | (simp [*]; done)), H', ⟨by have := HJ2.out; have := HJ10.out; first | omega | exact Nat.le_refl _⟩, ⟨by (with_reducible repeat (first | refine blk_drewN ?_ _ | refine blk_drew ?_ | refine blk_alloc ?_ _)); exact BK101.out⟩, ⟨by (with_reducible repeat (first | refine blk_drewN ?_ _ | refine blk_drew ?_ | refine blk_alloc ?_ _)); exact BK102.out⟩, ⟨bw_⟩⟩
              case rest =>
                clear HC17
                try clear c1
                try clear c2
                try clear p2
                try clear c6
                try clear c8
                try clear c8b0
                try clear c8b1
                try clear c9
                try clear c9b0
                try clear c9b1
                try clear c10
                try clear c12
                try clear c12b0
                try clear c12b1
                try clear c13
                try clear c13b0
                try clear c13b1
                try clear c14
                try clear c14b0
                try clear c14b1
                try clear c15
                try clear c15b0
                try clear c15b1
                try clear c16
                try clear c18
                try clear c18b0
                try clear c18b1
                try clear hcz7_0
                try clear hcz7_1
                try clear hfz7_0
                try clear hfz7_1
                try clear p2
                obtain ⟨kq, x18_16, rfl, HA, HJ16, BK101, BK102, HB⟩ := hcut
                cases kq with
                | zero => exact absurd HA.out (by simp [spec_OpTakes.j2])
                | succ kj16 =>
                  have H := HA.out
                  clear HA
                  simp only [spec_OpTakes.j2] at H
                  by_cases c19 : x18_16 = true
                  · subst c19
                    have H1 : (some (2, 1)) = some (r1, r2) := by rw [if_pos rfl] at H; exact H
                    clear H
                    have H := H1
                    clear H1
                    simp only [Option.some.injEq, Prod.mk.injEq] at H
                    obtain ⟨rfl, rfl⟩ := H
                    go_wp2
                    go_ret2
                    exact ⟨by first | rfl | (simp [errW_none, errW_some] <;> rfl) | (simp [*, errW_none, errW_some] <;> rfl), bw_⟩
                  · replace c19 := Bool.eq_false_iff.mpr c19
                    subst c19
                    have H1 : (if a1_0 = 12 then (spec_OpTakes.j3 kj16 a1_0 (a1_0 == 12) l0_0 a1_0 a1_1) else (if a1_0 = 13 then (spec_OpTakes.j3 kj16 a1_0 (a1_0 == 13) l0_0 a1_0 a1_1) else (if a1_0 = 17 then (spec_OpTakes.j3 kj16 a1_0 (a1_0 == 17) l0_0 a1_0 a1_1) else (spec_OpTakes.j3 kj16 a1_0 (a1_0 == 18) l0_0 a1_0 a1_1)))) = some (r1, r2) := by rw [if_neg (show ¬ (false = true) by decide)] at H; exact H
                    clear H
                    have H := H1
                    clear H1
                    have HC20 := Aside0.mk H
                    clear H
                    go_upto_if 21 with (fail)
                    go_cut [21] (fun v21 wc => ∃ (kq : Nat) (x21_19 : Bool), v21 = .bool x21_19 ∧ Aside0 (spec_OpTakes.j3 kq a1_0 x21_19 l0_0 a1_0 a1_1 = some (r1, r2)) ∧ Aside0 (kq ≤ kj16) ∧ Aside0 (wc.heap[gb101]? = some (.cells #[(.slice A0_0 l0_0.length c0_0)] 46 (0, 0))) ∧ Aside0 (wc.heap[gb102]? = some (.cells #[.int .i64 a1_0, .int .i64 a1_1] 48 (0, 0))) ∧ Aside0 (Below w.heap.size w wc))
                    case first =>
                      have H := HC20.out
                      clear HC20
                      by_cases c21 : a1_0 = 12
                      · rw [if_pos c21] at H
                        have c21b0 : (a1_0 == 12) = true := beq_iff_eq.mpr c21
                        have c21b1 : (a1_0 != 12) = false := bne_eq_false_iff_eq.mpr c21
                        clear c21
                        (first | rw [c21b0] | (simp only [i64_w, i32_w]; rw [c21b0]) | skip)
                        have H' := Aside0.mk H
                        clear H
                        go_wp2
                        go_meet
                        case rel => exact ⟨_, ((a1_0 == 12)), (by first | rfl | (simp; done) | (simp [*]; done)), H', ⟨by have := HJ2.out; have := HJ10.out; have := HJ16.out; first | omega | exact Nat.le_refl _⟩, ⟨by (with_reducible repeat (first | refine blk_drewN ?_ _ | refine blk_drew ?_ | refine blk_alloc ?_ _)); exact BK101.out⟩, ⟨by (with_reducible repeat (first | refine blk_drewN ?_ _ | refine blk_drew ?_ | refine blk_alloc ?_ _)); exact BK102.out⟩, ⟨bw_⟩⟩
                      · rw [if_neg c21] at H
                        have c21b0 : (a1_0 == 12) = false := beq_eq_false_iff_ne.mpr c21
                        have c21b1 : (a1_0 != 12) = true := bne_iff_ne.mpr c21
                        (first | rw [c21b0] | (simp only [i64_w, i32_w]; rw [c21b0]) | skip)
                        by_cases c22 : a1_0 = 13
                        · rw [if_pos c22] at H
                          have c22b0 : (a1_0 == 13) = true := beq_iff_eq.mpr c22
                          have c22b1 : (a1_0 != 13) = false := bne_eq_false_iff_eq.mpr c22
                          clear c22
                          have H' := Aside0.mk H
                          clear H
                          go_wp2
                          go_meet
                          case rel => exact ⟨_, ((a1_0 == 13)), (by first | rfl | (simp; done) | (simp [*]; done)), H', ⟨by have := HJ2.out; have := HJ10.out; have := HJ16.out; first | omega | exact Nat.le_refl _⟩, ⟨by (with_reducible repeat (first | refine blk_drewN ?_ _ | refine blk_drew ?_ | refine blk_alloc ?_ _)); exact BK101.out⟩, ⟨by (with_reducible repeat (first | refine blk_drewN ?_ _ | refine blk_drew ?_ | refine blk_alloc ?_ _)); exact BK102.out⟩, ⟨bw_⟩⟩
                        · rw [if_neg c22] at H
                          have c22b0 : (a1_0 == 13) = false := beq_eq_false_iff_ne.mpr c22
                          have c22b1 : (a1_0 != 13) = true := bne_iff_ne.mpr c22
                          by_cases c23 : a1_0 = 17
                          · rw [if_pos c23] at H
                            have c23b0 : (a1_0 == 17) = true := beq_iff_eq.mpr c23
                            have c23b1 : (a1_0 != 17) = false := bne_eq_false_iff_eq.mpr c23
                            clear c23
                            have H' := Aside0.mk H
                            clear H
                            go_wp2
                            go_meet
                            case rel => exact ⟨_, ((a1_0 == 17)), (by first | rfl | (simp; done) | (simp [*]; done)), H', ⟨by have := HJ2.out; have := HJ10.out; have := HJ16.out; first | omega | exact Nat.le_refl _⟩, ⟨by (with_reducible repeat (first | refine blk_drewN ?_ _ | refine blk_drew ?_ | refine blk_alloc ?_ _)); exact BK101.out⟩, ⟨by (with_reducible repeat (first | refine blk_drewN ?_ _ | refine blk_drew ?_ | refine blk_alloc ?_ _)); exact BK102.out⟩, ⟨bw_⟩⟩
                          · rw [if_neg c23] at H
                            have c23b0 : (a1_0 == 17) = false := beq_eq_false_iff_ne.mpr c23
                            have c23b1 : (a1_0 != 17) = true := bne_iff_ne.mpr c23
                            have H' := Aside0.mk H
                            clear H
                            go_wp2
                            go_meet
                            case rel => exact ⟨_, ((a1_0 == 18)), (by first | rfl | (simp; done) | (simp [*]; done)), H', ⟨by have := HJ2.out; have := HJ10.out; have := HJ16.out; first | omega | exact Nat.le_refl _⟩, ⟨by (with_reducible repeat (first | refine blk_drewN ?_ _ | refine blk_drew ?_ | refine blk_alloc ?_ _)); exact BK101.out⟩, ⟨by (with_reducible repeat (first | refine blk_drewN ?_ _ | refine blk_drew ?_ | refine blk_alloc ?_ _)); exact BK102.out⟩, ⟨bw_⟩⟩
                    case rest =>
                      clear HC20
                      try clear c1
                      try clear c2
                      try clear p2
                      try clear c6
                      try clear c8
                      try clear c8b0
                      try clear c8b1
                      try clear c9
                      try clear c9b0
                      try clear c9b1
                      try clear c10
                      try clear c12
                      try clear c12b0
                      try clear c12b1
                      try clear c13
                      try clear c13b0
                      try clear c13b1
                      try clear c14
                      try clear c14b0
                      try clear c14b1
                      try clear c15
                      try clear c15b0
                      try clear c15b1
                      try clear c16
                      try clear c18
                      try clear c18b0
                      try clear c18b1
                      try clear c19
                      try clear c21
                      try clear c21b0
                      try clear c21b1
                      try clear c22
                      try clear c22b0
                      try clear c22b1
                      try clear c23
                      try clear c23b0
                      try clear c23b1
                      try clear hcz7_0
                      try clear hcz7_1
                      try clear hfz7_0
                      try clear hfz7_1
                      try clear p2
                      obtain ⟨kq, x21_19, rfl, HA, HJ19, BK101, BK102, HB⟩ := hcut
                      cases kq with
                      | zero => exact absurd HA.out (by simp [spec_OpTakes.j3])
                      | succ kj19 =>
                        have H := HA.out
                        clear HA
                        simp only [spec_OpTakes.j3] at H
                        by_cases c24 : x21_19 = true
                        · subst c24
                          have H1 : (some (1, 1)) = some (r1, r2) := by rw [if_pos rfl] at H; exact H
                          clear H
                          have H := H1
                          clear H1
                          simp only [Option.some.injEq, Prod.mk.injEq] at H
                          obtain ⟨rfl, rfl⟩ := H
                          go_wp2
                          go_ret2
                          exact ⟨by first | rfl | (simp [errW_none, errW_some] <;> rfl) | (simp [*, errW_none, errW_some] <;> rfl), bw_⟩
                        · replace c24 := Bool.eq_false_iff.mpr c24
                          subst c24
                          have H1 : (if a1_0 = 14 then (some (2, 0)) else (if a1_0 = 15 then (some (2, 1)) else (if a1_0 = 9 then ((spec_l6In.f a1_1 0 (wrap64 ((l0_0.length : Int) - 1))).bind fun t103 => (if t103 = true then (if 0 ≤ a1_1 then (if a1_1 < (l0_0.length : Int) then (some ((rd_impl_Method l0_0 a1_1).f0, 1)) else (none)) else (none)) else (some (0, 0)))) else (some (0, 0))))) = some (r1, r2) := by rw [if_neg (show ¬ (false = true) by decide)] at H; exact H
                          clear H
                          have H := H1
                          clear H1
                          by_cases c25 : a1_0 = 14
                          · rw [if_pos c25] at H
                            have c25b0 : (a1_0 == 14) = true := beq_iff_eq.mpr c25
                            have c25b1 : (a1_0 != 14) = false := bne_eq_false_iff_eq.mpr c25
                            clear c25
                            simp only [Option.some.injEq, Prod.mk.injEq] at H
                            obtain ⟨rfl, rfl⟩ := H
                            go_wp2
                            go_ret2
                            exact ⟨by first | rfl | (simp [errW_none, errW_some] <;> rfl) | (simp [*, errW_none, errW_some] <;> rfl), bw_⟩
                          · rw [if_neg c25] at H
                            have c25b0 : (a1_0 == 14) = false := beq_eq_false_iff_ne.mpr c25
                            have c25b1 : (a1_0 != 14) = true := bne_iff_ne.mpr c25
                            by_cases c26 : a1_0 = 15
                            · rw [if_pos c26] at H
                              have c26b0 : (a1_0 == 15) = true := beq_iff_eq.mpr c26
                              have c26b1 : (a1_0 != 15) = false := bne_eq_false_iff_eq.mpr c26
                              clear c26
                              simp only [Option.some.injEq, Prod.mk.injEq] at H
                              obtain ⟨rfl, rfl⟩ := H
                              go_wp2
                              go_ret2
                              exact ⟨by first | rfl | (simp [errW_none, errW_some] <;> rfl) | (simp [*, errW_none, errW_some] <;> rfl), bw_⟩
                            · rw [if_neg c26] at H
                              have c26b0 : (a1_0 == 15) = false := beq_eq_false_iff_ne.mpr c26
                              have c26b1 : (a1_0 != 15) = true := bne_iff_ne.mpr c26
                              by_cases c27 : a1_0 = 9
                              · rw [if_pos c27] at H
                                have c27b0 : (a1_0 == 9) = true := beq_iff_eq.mpr c27
                                have c27b1 : (a1_0 != 9) = false := bne_eq_false_iff_eq.mpr c27
                                clear c27
                                replace H := Option.bind_eq_some_iff.mp H
                                obtain ⟨t103, A280, H⟩ := H
                                replace H : (if t103 = true then (if 0 ≤ a1_1 then (if a1_1 < (l0_0.length : Int) then (some ((rd_impl_Method l0_0 a1_1).f0, 1)) else (none)) else (none)) else (some (0, 0))) = some (r1, r2) := H
                                have A28 := Aside0.mk A280
                                clear A280
                                by_cases c29 : t103 = true
                                · subst c29
                                  have H1 : (if 0 ≤ a1_1 then (if a1_1 < (l0_0.length : Int) then (some ((rd_impl_Method l0_0 a1_1).f0, 1)) else (none)) else (none)) = some (r1, r2) := by rw [if_pos rfl] at H; exact H
                                  clear H
                                  have H := H1
                                  clear H1
                                  by_cases c30 : 0 ≤ a1_1
                                  · rw [if_pos c30] at H
                                    have c30b0 : decide (0 ≤ a1_1) = true := decide_eq_true c30
                                    clear c30
                                    by_cases c31 : a1_1 < (l0_0.length : Int)
                                    · rw [if_pos c31] at H
                                      have c31b0 : decide (a1_1 < (l0_0.length : Int)) = true := decide_eq_true c31
                                      clear c31
                                      simp only [Option.some.injEq, Prod.mk.injEq] at H
                                      obtain ⟨rfl, rfl⟩ := H
                                      have hnb32 := NB102_101.out
                                      have hnc32 := NB101_102.out
                                      have hcz33_0 : wc.cell? ⟨gb102, 0, none⟩ = some (.int .i64 a1_0) := (blk_cell BK102.out 0).trans rfl
                                      have hcz33_1 : wc.cell? ⟨gb102, 1, none⟩ = some (.int .i64 a1_1) := (blk_cell BK102.out 1).trans rfl
                                      have hfz33_0 := blk_frozen BK102.out 0
                                      have hfz33_1 := blk_frozen BK102.out 1
                                      have hcz34_0 : wc.cell? ⟨gb101, 0, none⟩ = some (.slice A0_0 l0_0.length c0_0) := (blk_cell BK101.out 0).trans rfl
                                      have hfz34_0 := blk_frozen BK101.out 0
                                      go_wp2_with (first | ((with_reducible refine gate_callee (f := 57) rfl ?_); refine goesL_ (some 38) rfl rfl Try.func57 (by kernel_rfl) rfl #[.int .i64 a1_1, .int .i64 0, .int .i64 (wrap64 ((l0_0.length : Int) - 1))] rfl (by (try simp only [List.map_toArray, List.map_cons, List.map_nil]); first | done | rfl | (simp only [List.length_drop, List.length_take]; rfl)) ?_; (with_reducible refine (spec_l6In.calls a1_1 0 (wrap64 ((l0_0.length : Int) - 1)) true _ A28.out).mono ?_); rintro e w' ⟨rfl, ⟨nd, rfl⟩⟩; refine ⟨_, rfl, ?_⟩; have p104 : 0 ≤ (a1_1 : Int) := of_decide_eq_true (by first | (with_reducible assumption) | assumption); have q104 : a1_1 < (l0_0.length : Int) := of_decide_eq_true (by first | (with_reducible assumption) | assumption); obtain ⟨ad104, A104_2, c104_2, e104, hx104_0, hx104_1, hx104_2, hl104_2, hi104_2⟩ := at_impl_Method HR0_0.out a1_1 p104 q104; cases e104; replace hx104_0 := (HB.out.cell (World.block_lt_of_cell? w _ hx104_0)).trans hx104_0; replace hx104_1 := (HB.out.cell (World.block_lt_of_cell? w _ hx104_1)).trans hx104_1; replace hx104_2 := (HB.out.cell (World.block_lt_of_cell? w _ hx104_2)).trans hx104_2; have HR104_2 := Aside0.mk hi104_2; have HC104_2 := Aside0.mk hl104_2; clear hi104_2 hl104_2; replace p104 := eq_true p104; replace q104 := eq_true q104))
                                      go_ret2
                                      exact ⟨by first | rfl | (simp [errW_none, errW_some] <;> rfl) | (simp [*, errW_none, errW_some] <;> rfl), bw_⟩
                                    · rw [if_neg c31] at H
                                      exact absurd H (by simp)
                                  · rw [if_neg c30] at H
                                    exact absurd H (by simp)
                                · replace c29 := Bool.eq_false_iff.mpr c29
                                  subst c29
                                  have H1 : (some (0, 0)) = some (r1, r2) := by rw [if_neg (show ¬ (false = true) by decide)] at H; exact H
                                  clear H
                                  have H := H1
                                  clear H1
                                  simp only [Option.some.injEq, Prod.mk.injEq] at H
                                  obtain ⟨rfl, rfl⟩ := H
                                  have hnb35 := NB102_101.out
                                  have hnc35 := NB101_102.out
                                  have hcz36_0 : wc.cell? ⟨gb102, 0, none⟩ = some (.int .i64 a1_0) := (blk_cell BK102.out 0).trans rfl
                                  have hcz36_1 : wc.cell? ⟨gb102, 1, none⟩ = some (.int .i64 a1_1) := (blk_cell BK102.out 1).trans rfl
                                  have hfz36_0 := blk_frozen BK102.out 0
                                  have hfz36_1 := blk_frozen BK102.out 1
                                  have hcz37_0 : wc.cell? ⟨gb101, 0, none⟩ = some (.slice A0_0 l0_0.length c0_0) := (blk_cell BK101.out 0).trans rfl
                                  have hfz37_0 := blk_frozen BK101.out 0
                                  go_wp2_with (first | ((with_reducible refine gate_callee (f := 57) rfl ?_); refine goesL_ (some 38) rfl rfl Try.func57 (by kernel_rfl) rfl #[.int .i64 a1_1, .int .i64 0, .int .i64 (wrap64 ((l0_0.length : Int) - 1))] rfl (by (try simp only [List.map_toArray, List.map_cons, List.map_nil]); first | done | rfl | (simp only [List.length_drop, List.length_take]; rfl)) ?_; (with_reducible refine (spec_l6In.calls a1_1 0 (wrap64 ((l0_0.length : Int) - 1)) false _ A28.out).mono ?_); rintro e w' ⟨rfl, ⟨nd, rfl⟩⟩; refine ⟨_, rfl, ?_⟩))
                                  go_ret2
                                  exact ⟨by first | rfl | (simp [errW_none, errW_some] <;> rfl) | (simp [*, errW_none, errW_some] <;> rfl), bw_⟩
                              · rw [if_neg c27] at H
                                have c27b0 : (a1_0 == 9) = false := beq_eq_false_iff_ne.mpr c27
                                have c27b1 : (a1_0 != 9) = true := bne_iff_ne.mpr c27
                                simp only [Option.some.injEq, Prod.mk.injEq] at H
                                obtain ⟨rfl, rfl⟩ := H
                                go_wp2
                                go_ret2
                                exact ⟨by first | rfl | (simp [errW_none, errW_some] <;> rfl) | (simp [*, errW_none, errW_some] <;> rfl), bw_⟩
end Go.Proofs.Ytcllkemhlhbdgaa.G
namespace Go.Proofs.Ytcllkemhlhbdgaa.G
open Go.RowKit Go.Proofs.YtcllkemhlhbdgaaW.PrintWords Go.Proofs.YtcllkemhlhbdgaaW.PrintLast Go.Proofs.YtcllkemhlhbdgaaW.PrintMore
attribute [local go_sem] max2_int min2_int max_two min_two max_three min_three max_four min_four
set_option linter.unusedVariables false
set_option linter.unusedSimpArgs false
def impl_OpTakes.f (l0_0 : List (S_impl_Method)) (a1_0 : Int) (a1_1 : Int) : Option (Int × Int) :=
  if 1 ≤ a1_0 ∧ a1_0 ≤ 18 then (if a1_0 = 9 then (if 0 ≤ a1_1 ∧ a1_1 < (l0_0.length : Int) then some ((rd_impl_Method l0_0 a1_1).f0, 1) else some (0, 0)) else some (mTakes a1_0.toNat, mLeft a1_0.toNat)) else some (0, 0)
theorem two_boxes {w w1 : World} {o1 o2 : Obj} (h : Below ((w.alloc o1).alloc o2).heap.size ((w.alloc o1).alloc o2) w1) : w1.heap[w.heap.size]? = some o1 ∧ w1.heap[w.heap.size + 1]? = some o2 ∧ Below w.heap.size w w1 ∧ w.heap.size + 2 ≤ w1.heap.size := by
  have h1 : ((w.alloc o1).alloc o2).heap[w.heap.size]? = some o1 := by
    show ((w.heap.push o1).push o2)[_]? = _
    simp only [Array.getElem?_push, Array.size_push]
    rw [if_neg (by omega), if_pos trivial]
  have h2 : ((w.alloc o1).alloc o2).heap[w.heap.size + 1]? = some o2 := by
    show ((w.heap.push o1).push o2)[_]? = _
    simp only [Array.getElem?_push, Array.size_push]
    rw [if_pos trivial]
  refine ⟨(h.block _ (blk_lt h1)).trans h1, (h.block _ (blk_lt h2)).trans h2, ?_, ?_⟩
  · exact below_step (below_alloc (below_alloc (Below.refl _ _) _) _) h
  · have := h.size
    simpa using this
set_option maxHeartbeats 2000000 in
set_option maxRecDepth 100000 in
theorem OpTakes_no (A0 : Option Addr) (c0 : Nat) (l0 : List S_impl_Method) (k a : Int) (w : World) (h : ¬ (1 ≤ k ∧ k ≤ 18)) :
    Calls Try.prog 24 #[.agg #[.slice A0 l0.length c0], .agg #[.int .i64 k, .int .i64 a]] w fun e w' => e = .returned (.tuple #[.int .i64 0, .int .i64 0]) ∧ Below w.heap.size w w' := by
  have H := Aside0.mk h
  clear h
  go_enter Try.func24, Try.ntmps24
  go_wp2_with (go_at_call 59; refine (mannerOf_no _ _ H.out).mono ?_; rintro e w1 ⟨rfl, hb⟩; obtain ⟨hb1, hb2, hb3, hb4⟩ := two_boxes hb; have HB := Aside0.mk hb3; clear hb hb3)
  go_ret2
  exact ⟨rfl, by repeat (first | exact HB.out | apply below_alloc)⟩
set_option maxHeartbeats 2000000 in
set_option maxRecDepth 100000 in
theorem OpTakes_nil (A0 : Option Addr) (c0 : Nat) (l0 : List S_impl_Method) (k a : Int) (w : World) (h1 : 1 ≤ k) (h2 : k ≤ 18) (h9 : ¬ k = 9) (hF : mG k.toNat = none) :
    Calls Try.prog 24 #[.agg #[.slice A0 l0.length c0], .agg #[.int .i64 k, .int .i64 a]] w fun e w' => e = .returned (.tuple #[.int .i64 (mTakes k.toNat), .int .i64 (mLeft k.toNat)]) ∧ Below w.heap.size w w' := by
  have H1 := Aside0.mk h1
  have H2 := Aside0.mk h2
  have HF := Aside0.mk hF
  have e9 : (k != 9) = true := bne_iff_ne.mpr h9
  clear h1 h2 hF h9
  go_enter Try.func24, Try.ntmps24
  go_wp2_with (go_at_call 59; refine (mannerOf_nil _ _ H1.out H2.out HF.out).mono ?_; rintro e w1 ⟨b, rfl, hm, hge, hb⟩; obtain ⟨hb1, hb2, hb3, hb4⟩ := two_boxes hb; have HB := Aside0.mk hb3; have hlt1 : w.heap.size + 1 < w1.heap.size := hb4; clear hb hb3 hm hge; have z0 : w1.cell? ⟨w.heap.size + 1, 0, none⟩ = some (.int .i64 k) := blk_cell hb2 0)
  go_quiet (fail)
  go_wp2
  go_ret2
  exact ⟨rfl, by repeat (first | exact HB.out | apply below_alloc | apply pw_below_drewN | apply below_drew1)⟩
set_option maxHeartbeats 2000000 in
set_option maxRecDepth 100000 in
theorem OpTakes_fn (A0 : Option Addr) (c0 : Nat) (l0 : List S_impl_Method) (k a : Int) (w : World) (g : Nat) (o : Option Nat) (h1 : 1 ≤ k) (h2 : k ≤ 18) (h9 : ¬ k = 9) (hF : mG k.toNat = some (g, o)) :
    Calls Try.prog 24 #[.agg #[.slice A0 l0.length c0], .agg #[.int .i64 k, .int .i64 a]] w fun e w' => e = .returned (.tuple #[.int .i64 (mTakes k.toNat), .int .i64 (mLeft k.toNat)]) ∧ Below w.heap.size w w' := by
  have H1 := Aside0.mk h1
  have H2 := Aside0.mk h2
  have HF := Aside0.mk hF
  have e9 : (k != 9) = true := bne_iff_ne.mpr h9
  clear h1 h2 hF h9
  go_enter Try.func24, Try.ntmps24
  go_wp2_with (go_at_call 59; refine (mannerOf_fn _ _ _ _ H1.out H2.out HF.out).mono ?_; rintro e w1 ⟨b, rfl, hm, hge, hb⟩; obtain ⟨hb1, hb2, hb3, hb4⟩ := two_boxes hb; have HB := Aside0.mk hb3; have hlt1 : w.heap.size + 1 < w1.heap.size := hb4; clear hb hb3 hm hge; have z0 : w1.cell? ⟨w.heap.size + 1, 0, none⟩ = some (.int .i64 k) := blk_cell hb2 0)
  go_quiet (fail)
  go_wp2
  go_ret2
  exact ⟨rfl, by repeat (first | exact HB.out | apply below_alloc | apply pw_below_drewN | apply below_drew1)⟩
theorem mannerOf_call (w : World) : Calls Try.prog 59 #[.int .i64 9] w fun e w' => e = .returned (.tuple #[.agg #[.string ⟨#[99, 97, 108, 108]⟩, .int .i64 0, .int .i64 1, .slice none 0 0, .func (.func 113) #[] #[]], .bool true]) ∧ Below w.heap.size w w' :=
  (mannerOf_fn 9 w 113 none (by decide) (by decide) rfl).mono fun e w' ⟨b, he, _, _, hb⟩ => ⟨he, hb⟩
set_option maxHeartbeats 2000000 in
set_option maxRecDepth 100000 in
theorem OpTakes_out (A0 : Option Addr) (c0 : Nat) (l0 : List S_impl_Method) (a : Int) (w : World) (hl : l0.length ≤ 9223372036854775807) (h : ¬ (0 ≤ a ∧ a < (l0.length : Int))) :
    Calls Try.prog 24 #[.agg #[.slice A0 l0.length c0], .agg #[.int .i64 9, .int .i64 a]] w fun e w' => e = .returned (.tuple #[.int .i64 0, .int .i64 0]) ∧ Below w.heap.size w w' := by
  have h : decide (0 ≤ a) = false ∨ (decide (0 ≤ a) = true ∧ decide (a ≤ (l0.length : Int) - 1) = false) := by
    by_cases h1 : 0 ≤ a
    · exact .inr ⟨by simpa using h1, by simp; omega⟩
    · exact .inl (by simpa using h1)
  rcases h with h1 | ⟨h1, h2⟩
  · go_enter Try.func24, Try.ntmps24
    go_wp2_with (first | (go_at_call 60; go_in) | (go_at_call 59; refine (mannerOf_call _).mono ?_; rintro e w1 ⟨rfl, hb⟩; obtain ⟨hb1, hb2, hb3, hb4⟩ := two_boxes hb; have HB := Aside0.mk hb3; have hlt1 : w.heap.size + 1 < w1.heap.size := hb4; have hlt0 : w.heap.size < w1.heap.size := Nat.lt_of_succ_lt hb4; clear hb hb3; have z0 : w1.cell? ⟨w.heap.size + 1, 0, none⟩ = some (.int .i64 9) := blk_cell hb2 0; have z1 : w1.cell? ⟨w.heap.size + 1, 1, none⟩ = some (.int .i64 a) := blk_cell hb2 1; have z2 : w1.cell? ⟨w.heap.size, 0, none⟩ = some (.slice A0 l0.length c0) := blk_cell hb1 0))
    go_ret2
    exact ⟨rfl, by repeat (first | exact HB.out | apply below_alloc | apply pw_below_drewN | apply below_drew1)⟩
  · go_enter Try.func24, Try.ntmps24
    go_wp2_with (first | (go_at_call 60; go_in) | (go_at_call 59; refine (mannerOf_call _).mono ?_; rintro e w1 ⟨rfl, hb⟩; obtain ⟨hb1, hb2, hb3, hb4⟩ := two_boxes hb; have HB := Aside0.mk hb3; have hlt1 : w.heap.size + 1 < w1.heap.size := hb4; have hlt0 : w.heap.size < w1.heap.size := Nat.lt_of_succ_lt hb4; clear hb hb3; have z0 : w1.cell? ⟨w.heap.size + 1, 0, none⟩ = some (.int .i64 9) := blk_cell hb2 0; have z1 : w1.cell? ⟨w.heap.size + 1, 1, none⟩ = some (.int .i64 a) := blk_cell hb2 1; have z2 : w1.cell? ⟨w.heap.size, 0, none⟩ = some (.slice A0 l0.length c0) := blk_cell hb1 0))
    go_ret2
    exact ⟨rfl, by repeat (first | exact HB.out | apply below_alloc | apply pw_below_drewN | apply below_drew1)⟩
set_option maxHeartbeats 2000000 in
set_option maxRecDepth 100000 in
theorem OpTakes_in (A0 : Option Addr) (c0 : Nat) (l0 : List S_impl_Method) (a : Int) (w : World) (hr0 : Kd.C k_impl_Method w A0 l0.length l0) (hl : l0.length ≤ 9223372036854775807) (h1 : 0 ≤ a) (h2 : a < (l0.length : Int)) :
    Calls Try.prog 24 #[.agg #[.slice A0 l0.length c0], .agg #[.int .i64 9, .int .i64 a]] w fun e w' => e = .returned (.tuple #[.int .i64 (rd_impl_Method l0 a).f0, .int .i64 1]) ∧ Below w.heap.size w w' := by
  obtain ⟨ad, A2, c2, rfl, hx0, hx1, hx2, -, -⟩ := at_impl_Method hr0 a h1 h2
  have HX := Aside0.mk hx0
  have d1 : decide (0 ≤ a) = true := by simpa using h1
  have d2 : decide (a ≤ (l0.length : Int) - 1) = true := by simp; omega
  have d3 : decide (a < (l0.length : Int)) = true := by simpa using h2
  clear hx0 hx1 hx2
  go_enter Try.func24, Try.ntmps24
  go_wp2_with (first | (go_at_call 60; go_in) | (go_at_call 59; refine (mannerOf_call _).mono ?_; rintro e w1 ⟨rfl, hb⟩; obtain ⟨hb1, hb2, hb3, hb4⟩ := two_boxes hb; have hx := pw_cell_below hb3 HX.out; have hxl := World.block_lt_of_cell? w1 _ hx; have HB := Aside0.mk hb3; have hlt1 : w.heap.size + 1 < w1.heap.size := hb4; have hlt0 : w.heap.size < w1.heap.size := Nat.lt_of_succ_lt hb4; clear hb hb3; have z0 : w1.cell? ⟨w.heap.size + 1, 0, none⟩ = some (.int .i64 9) := blk_cell hb2 0; have z1 : w1.cell? ⟨w.heap.size + 1, 1, none⟩ = some (.int .i64 a) := blk_cell hb2 1; have z2 : w1.cell? ⟨w.heap.size, 0, none⟩ = some (.slice (some ad) l0.length c0) := blk_cell hb1 0))
  go_quiet (fail)
  go_wp2
  go_ret2
  exact ⟨rfl, by repeat (first | exact HB.out | apply below_alloc | apply pw_below_drewN | apply below_drew1)⟩
theorem impl_OpTakes.calls (A0_0 : Option Addr) (c0_0 : Nat) (l0_0 : List (S_impl_Method)) (a1_0 : Int) (a1_1 : Int) (r1 : Int) (r2 : Int) (w : World) (hr0_0 : Kd.C k_impl_Method w A0_0 l0_0.length l0_0) (hc0_0 : l0_0.length ≤ c0_0) (h : impl_OpTakes.f l0_0 a1_0 a1_1 = some (r1, r2)) :
    Calls Try.prog 24 #[.agg #[.slice A0_0 l0_0.length c0_0], .agg #[.int .i64 a1_0, .int .i64 a1_1]] w fun e w' => e = .returned (.tuple #[.int .i64 r1, .int .i64 r2]) ∧ Below w.heap.size w w' := by
  have hl : l0_0.length ≤ 9223372036854775807 := hr0_0.2.1
  unfold impl_OpTakes.f at h
  by_cases hk : 1 ≤ a1_0 ∧ a1_0 ≤ 18
  · rw [if_pos hk] at h
    by_cases h9 : a1_0 = 9
    · subst h9
      rw [if_pos rfl] at h
      by_cases hin : 0 ≤ a1_1 ∧ a1_1 < (l0_0.length : Int)
      · rw [if_pos hin] at h
        simp only [Option.some.injEq, Prod.mk.injEq] at h
        obtain ⟨rfl, rfl⟩ := h
        exact OpTakes_in A0_0 c0_0 l0_0 a1_1 w hr0_0 hl hin.1 hin.2
      · rw [if_neg hin] at h
        simp only [Option.some.injEq, Prod.mk.injEq] at h
        obtain ⟨rfl, rfl⟩ := h
        exact OpTakes_out A0_0 c0_0 l0_0 a1_1 w hl hin
    · rw [if_neg h9] at h
      simp only [Option.some.injEq, Prod.mk.injEq] at h
      obtain ⟨rfl, rfl⟩ := h
      cases hg : mG a1_0.toNat with
      | none => exact OpTakes_nil A0_0 c0_0 l0_0 a1_0 a1_1 w hk.1 hk.2 h9 hg
      | some go => exact OpTakes_fn A0_0 c0_0 l0_0 a1_0 a1_1 w go.1 go.2 hk.1 hk.2 h9 hg
  · rw [if_neg hk] at h
    simp only [Option.some.injEq, Prod.mk.injEq] at h
    obtain ⟨rfl, rfl⟩ := h
    exact OpTakes_no A0_0 c0_0 l0_0 a1_0 a1_1 w hk
end Go.Proofs.Ytcllkemhlhbdgaa.G
namespace Go.Proofs.Ytcllkemhlhbdgaa.G
open Go.RowKit Go.Proofs.YtcllkemhlhbdgaaW.PrintWords Go.Proofs.YtcllkemhlhbdgaaW.PrintLast
def cOp (x : S_laws_Op) : S_impl_Op := ⟨x.f0, x.f1⟩
def cMethod (x : S_laws_Method) : S_impl_Method := ⟨x.f0, x.f1, x.f2.map cOp⟩
theorem rd_laws_Op_at {l : List S_laws_Op} {i : Nat} (h : i < l.length) : rd_laws_Op l i = l[i] := rdget h
theorem rd_impl_Op_at {l : List S_impl_Op} {i : Nat} (h : i < l.length) : rd_impl_Op l i = l[i] := rdget h
theorem rd_laws_Method_at {l : List S_laws_Method} {i : Nat} (h : i < l.length) : rd_laws_Method l i = l[i] := rdget h
theorem rd_impl_Method_at {l : List S_impl_Method} {i : Nat} (h : i < l.length) : rd_impl_Method l i = l[i] := rdget h
theorem szOpS_tells (l : List S_laws_Op) (left : Int) (h0 : 0 ≤ left) (h1 : left ≤ 1048576) (hl : l.length ≤ 9223372036854775807) : ∃ t, laws_szOpS.f l left = some t ∧ t ≤ left ∧ (0 ≤ t → (l.length : Int) ≤ left) := by
  unfold laws_szOpS.f
  rw [w64 (by omega) (by omega)]
  split
  · exact ⟨-1, rfl, by omega, by omega⟩
  · exact ⟨_, rfl, by omega, by omega⟩
theorem szMethodS_tells (l : List S_laws_Method) (left : Int) (h0 : 0 ≤ left) (h1 : left ≤ 1048576) (hw : l.length ≤ 9223372036854775807 ∧ ∀ m ∈ l, wf_laws_Method m) :
    ∃ t, (t ≤ left ∧ (0 ≤ t → (l.length : Int) ≤ left ∧ ∀ m ∈ l, (m.f2.length : Int) ≤ left)) ∧ Ev (fun k => laws_szMethodS.f k l left) t := by
  unfold laws_szMethodS.f
  rw [w64 (by omega) (by omega)]
  by_cases hneg : left - (l.length : Int) < 0
  · exact ⟨-1, ⟨by omega, by omega⟩, Ev.ifp hneg (Ev.now _)⟩
  · obtain ⟨r, hp, hr⟩ := ev_for0 (σ := Int) (fun k i s => laws_szMethodS.l0 k l s i) l.length (fun i s => 0 ≤ s ∧ s ≤ left - l.length ∧ ∀ (j : Nat) (hj : j < l.length), j < i → (l[j].f2.length : Int) ≤ left)
      (fun t => t ≤ left ∧ (0 ≤ t → ∀ m ∈ l, (m.f2.length : Int) ≤ left))
      (fun i s hi ⟨hs0, hs1, hs2⟩ => by
        obtain ⟨t, ht, htl, htp⟩ := szOpS_tells l[i].f2 s hs0 (by omega) (hw.2 _ (List.getElem_mem hi)).2.2.1
        have hm : laws_szMethod.f l[i].f0 l[i].f1 l[i].f2 s = some (if t < 0 then -1 else t) := by
          unfold laws_szMethod.f
          rw [ht]
          simp only [Option.bind_some]
          split <;> rfl
        by_cases hn : t < 0
        · refine .inl ⟨-1, ⟨by omega, by omega⟩, ?_⟩
          refine Ev.step (fun k => by rw [laws_szMethodS.l0]) ?_
          refine Ev.ifp (by omega) (Ev.ifp (by omega) ?_)
          rw [rd_laws_Method_at hi, hm, if_pos hn]
          exact Ev.now _
        · refine .inr ⟨t, ⟨by omega, by omega, fun j hj hji => ?_⟩, fun r hr => ?_⟩
          · by_cases e : j = i
            · subst e
              have := htp (by omega)
              omega
            · exact hs2 j hj (by omega)
          · refine Ev.step (fun k => by rw [laws_szMethodS.l0]) ?_
            refine Ev.ifp (by omega) (Ev.ifp (by omega) ?_)
            rw [rd_laws_Method_at hi, hm, if_neg hn]
            simp only [Option.bind_some, if_neg hn]
            rw [w64 (by omega) (by omega)]
            exact hr)
      (fun s ⟨hs0, hs1, hs2⟩ => ⟨s, ⟨by omega, fun _ m hm => by
        obtain ⟨j, hj, rfl⟩ := List.mem_iff_getElem.mp hm
        exact hs2 j hj hj⟩, Ev.step (fun k => by rw [laws_szMethodS.l0]) (Ev.ifn (by omega) (Ev.now _))⟩)
      (left - l.length) ⟨by omega, by omega, fun j hj h => absurd h (Nat.not_lt_zero _)⟩
    exact ⟨r, ⟨hp.1, fun h => ⟨by omega, hp.2 h⟩⟩, Ev.ifn hneg hr⟩
def few (l : List S_laws_Method) : Prop := l.length ≤ 1048576 ∧ ∀ m ∈ l, m.f2.length ≤ 1048576
theorem szProg_tells (l : List S_laws_Method) (left : Int) (h0 : 0 ≤ left) (h1 : left ≤ 1048576) (hw : wf_laws_Prog ⟨l⟩) :
    ∃ t, (t ≤ left ∧ (0 ≤ t → few l)) ∧ Ev (fun k => laws_szProg.f k l left) t := by
  obtain ⟨t, ⟨htl, htp⟩, ht⟩ := szMethodS_tells l left h0 h1 hw
  unfold laws_szProg.f
  by_cases hn : t < 0
  · exact ⟨-1, ⟨by omega, by omega⟩, Ev.bnd ht (Ev.ifp hn (Ev.now _))⟩
  · refine ⟨t, ⟨htl, fun h => ?_⟩, Ev.bnd ht (Ev.ifn hn (Ev.now _))⟩
    obtain ⟨a, b⟩ := htp h
    exact ⟨by omega, fun m hm => by have := b m hm; omega⟩
theorem toOpS_tells (l : List S_laws_Op) (hl : l.length ≤ 1048576) : Ev (fun k => laws_toOpS.f k l) (l.map cOp) := by
  unfold laws_toOpS.f
  refine Ev.ifp (by omega) (Ev.ifp (by omega) ?_)
  rw [Int.toNat_natCast]
  refine ev_map (fun k s i => laws_toOpS.l0 k l s i) l cOp z_impl_Op (fun i hi ys hy r hr => ?_) (fun ys hy => ?_)
  · refine Ev.step (fun k => by rw [laws_toOpS.l0]) ?_
    refine Ev.ifp (by omega) (Ev.ifp (by omega) ?_)
    rw [rd_laws_Op_at hi]
    refine Ev.bindc rfl (Ev.ifp (by omega) ?_)
    rw [w64 (by omega) (by omega), Int.toNat_natCast]
    exact hr
  · exact Ev.step (fun k => by rw [laws_toOpS.l0]) (Ev.ifn (by omega) (Ev.now _))
theorem toMethodS_tells (l : List S_laws_Method) (hl : few l) : Ev (fun k => laws_toMethodS.f k l) (l.map cMethod) := by
  unfold laws_toMethodS.f
  have hl1 := hl.1
  refine Ev.ifp (by omega) (Ev.ifp (by omega) ?_)
  rw [Int.toNat_natCast]
  refine ev_map (fun k s i => laws_toMethodS.l0 k l s i) l cMethod z_impl_Method (fun i hi ys hy r hr => ?_) (fun ys hy => ?_)
  · refine Ev.step (fun k => by rw [laws_toMethodS.l0]) ?_
    refine Ev.ifp (by omega) (Ev.ifp (by omega) ?_)
    rw [rd_laws_Method_at hi]
    refine Ev.bnd (a := (l[i].f0, l[i].f1, l[i].f2.map cOp)) ?_ (Ev.ifp (by omega) ?_)
    · unfold laws_toMethod.f
      exact Ev.bnd (toOpS_tells _ (hl.2 _ (List.getElem_mem hi))) (Ev.now _)
    · rw [w64 (by omega) (by omega), Int.toNat_natCast]
      exact hr
  · exact Ev.step (fun k => by rw [laws_toMethodS.l0]) (Ev.ifn (by omega) (Ev.now _))
theorem toProg_tells (l : List S_laws_Method) (hl : few l) : Ev (fun k => laws_toProg.f k l) (l.map cMethod) := by
  unfold laws_toProg.f
  exact Ev.bnd (toMethodS_tells l hl) (Ev.now _)
def fewI (l : List S_impl_Method) : Prop := l.length ≤ 1048576 ∧ ∀ m ∈ l, m.f2.length ≤ 1048576
theorem few_map {l : List S_laws_Method} (h : few l) : fewI (l.map cMethod) := by
  refine ⟨by simpa using h.1, fun m hm => ?_⟩
  obtain ⟨x, hx, rfl⟩ := List.mem_map.mp hm
  simpa [cMethod] using h.2 x hx
theorem eqOpS_self (l : List S_impl_Op) (hl : l.length ≤ 1048576) : Ev (fun k => laws_eqOpS.f k l l) true := by
  unfold laws_eqOpS.f
  refine Ev.ifp rfl ?_
  refine ev_all (fun k i => laws_eqOpS.l0 k l l i) l.length true (fun i hi r hr => ?_) ?_
  · refine Ev.step (fun k => by rw [laws_eqOpS.l0]) ?_
    refine Ev.ifp (by omega) (Ev.ifp (by omega) (Ev.ifp (by omega) (Ev.bindc (a := true) ?_ (Ev.ifp rfl ?_))))
    · unfold laws_eqOp.f
      rw [if_pos rfl, if_pos rfl]
    · rw [w64 (by omega) (by omega)]
      exact hr
  · exact Ev.step (fun k => by rw [laws_eqOpS.l0]) (Ev.ifn (by omega) (Ev.now _))
theorem eqMethodS_self (l : List S_impl_Method) (hl : fewI l) : Ev (fun k => laws_eqMethodS.f k l l) true := by
  unfold laws_eqMethodS.f
  have hl1 := hl.1
  refine Ev.ifp rfl ?_
  refine ev_all (fun k i => laws_eqMethodS.l0 k l l i) l.length true (fun i hi r hr => ?_) ?_
  · refine Ev.step (fun k => by rw [laws_eqMethodS.l0]) ?_
    refine Ev.ifp (by omega) (Ev.ifp (by omega) (Ev.ifp (by omega) (Ev.bnd (a := true) ?_ (Ev.ifp rfl ?_))))
    · unfold laws_eqMethod.f
      rw [rd_impl_Method_at hi]
      exact Ev.ifp rfl (Ev.ifp rfl (Ev.bnd (eqOpS_self _ (hl.2 _ (List.getElem_mem hi))) (Ev.ifp rfl (Ev.now _))))
    · rw [w64 (by omega) (by omega)]
      exact hr
  · exact Ev.step (fun k => by rw [laws_eqMethodS.l0]) (Ev.ifn (by omega) (Ev.now _))
theorem eqProg_self (l : List S_impl_Method) (hl : fewI l) : Ev (fun k => laws_eqProg.f k l l) true := by
  unfold laws_eqProg.f
  exact Ev.bnd (eqMethodS_self l hl) (Ev.ifp rfl (Ev.now _))
end Go.Proofs.Ytcllkemhlhbdgaa.G
namespace Go.Proofs.Ytcllkemhlhbdgaa.G
set_option linter.unusedSimpArgs false
open Go.RowKit Go.Proofs.YtcllkemhlhbdgaaW.PrintWords Go.Proofs.YtcllkemhlhbdgaaW.PrintLast
theorem l6In_tells (a b c : Int) : spec_l6In.f a b c = some (decide (b ≤ a ∧ a ≤ c)) := by
  unfold spec_l6In.f
  by_cases h : b ≤ a
  · rw [if_pos h]
    simp [h]
  · rw [if_neg h]
    simp [h]
theorem kinds18 {n : Nat} (h1 : 1 ≤ n) (h2 : n ≤ 18) : n = 1 ∨ n = 2 ∨ n = 3 ∨ n = 4 ∨ n = 5 ∨ n = 6 ∨ n = 7 ∨ n = 8 ∨ n = 9 ∨ n = 10 ∨ n = 11 ∨ n = 12 ∨ n = 13 ∨ n = 14 ∨ n = 15 ∨ n = 16 ∨ n = 17 ∨ n = 18 := by omega
theorem l1Op_tells (l : List S_impl_Method) (x y : Int) (ops : List S_impl_Op) (k a : Int) (hl : l.length ≤ 1048576) (ho : ops.length ≤ 1048576) (hy0 : 0 ≤ y) (hy1 : y ≤ 4) :
    Ev (fun n => spec_l1Op.f n l x y ops k a) (opOkB l.length y ops.length k a) := by
  refine Ev.of (fun n => spec_l1Op.mono _ _ _ _ _ _ n) (k := 4) ?_
  have hw1 : wrap64 (y - 1) = y - 1 := w64 (by omega) (by omega)
  have hw2 : wrap64 ((ops.length : Int) - 1) = (ops.length : Int) - 1 := w64 (by omega) (by omega)
  have hw3 : wrap64 ((l.length : Int) - 1) = (l.length : Int) - 1 := w64 (by omega) (by omega)
  unfold opOkB
  by_cases hk : 1 ≤ k ∧ k ≤ 18
  · rw [if_pos hk]
    obtain ⟨n, rfl⟩ := Int.eq_ofNat_of_zero_le (show 0 ≤ k by omega)
    rcases kinds18 (n := n) (by omega) (by omega) with rfl | rfl | rfl | rfl | rfl | rfl | rfl | rfl | rfl | rfl | rfl | rfl | rfl | rfl | rfl | rfl | rfl | rfl <;>
      simp [spec_l1Op.f, spec_l1Op.j0, spec_l1Op.j1, spec_l1Op.j2, l6In_tells, hw1, hw2, hw3, mG, mMost] <;> rfl
  · rw [if_neg hk]
    have e1 : ¬ k = 1 := by omega
    have e2 : ¬ k = 2 := by omega
    have e3 : ¬ k = 3 := by omega
    have e7 : ¬ k = 7 := by omega
    have e8 : ¬ k = 8 := by omega
    have e9 : ¬ k = 9 := by omega
    have e13 : ¬ k = 13 := by omega
    have e14 : ¬ k = 14 := by omega
    simp [spec_l1Op.f, spec_l1Op.j0, spec_l1Op.j1, spec_l1Op.j2, l6In_tells, hw1, hw2, hw3, e1, e2, e3, e7, e8, e9, e13, e14, hk]
theorem l1Method_tells (l : List S_impl_Method) (m : S_impl_Method) (hl : l.length ≤ 1048576) (hm : m.f2.length ≤ 1048576) : Ev (fun n => spec_l1Method.f n l m.f0 m.f1 m.f2) (!methodBadB l.length m) := by
  unfold spec_l1Method.f methodBadB
  by_cases c1 : 0 ≤ m.f0 ∧ m.f0 ≤ 2
  · refine Ev.bindc (l6In_tells _ _ _) (Ev.ifp (decide_eq_true c1) ?_)
    by_cases c2 : m.f0 ≤ m.f1 ∧ m.f1 ≤ 4
    · refine Ev.bindc (l6In_tells _ _ _) (Ev.ifp (decide_eq_true c2) ?_)
      by_cases c3 : m.f2.length ≤ 14
      · rw [if_pos ⟨c1.1, c1.2, c2.1, c2.2, c3⟩]
        refine Ev.step (fun k => by rw [spec_l1Method.j0]) (Ev.ifn (by simp; omega) ?_)
        obtain ⟨r, hp, hr⟩ := ev_for0 (σ := Unit) (fun k i _ => spec_l1Method.l0 k i l m.f0 m.f1 m.f2) m.f2.length (fun i _ => ∀ (j : Nat) (hj : j < m.f2.length), j < i → opOkB l.length m.f1 m.f2.length m.f2[j].f0 m.f2[j].f1 = true)
          (fun r => r = !(m.f2.any (fun op => !opOkB l.length m.f1 m.f2.length op.f0 op.f1)))
          (fun i _ hi hs => by
            have hop := l1Op_tells l m.f0 m.f1 m.f2 m.f2[i].f0 m.f2[i].f1 hl hm (by omega) (by omega)
            cases ho : opOkB l.length m.f1 m.f2.length m.f2[i].f0 m.f2[i].f1 with
            | false =>
              refine .inl ⟨false, ?_, ?_⟩
              · have : m.f2.any (fun op => !opOkB l.length m.f1 m.f2.length op.f0 op.f1) = true := List.any_eq_true.mpr ⟨m.f2[i], List.getElem_mem hi, by rw [ho]; rfl⟩
                rw [this]
                rfl
              · refine Ev.step (fun k => by rw [spec_l1Method.l0]) (Ev.ifp (by omega) (Ev.ifp (by omega) ?_))
                rw [rd_impl_Op_at hi]
                rw [ho] at hop
                exact Ev.bnd hop (Ev.ifn (by simp) (Ev.now _))
            | true =>
              refine .inr ⟨(), fun j hj hji => ?_, fun r hr => ?_⟩
              · by_cases e : j = i
                · subst e; exact ho
                · exact hs j hj (by omega)
              · refine Ev.step (fun k => by rw [spec_l1Method.l0]) (Ev.ifp (by omega) (Ev.ifp (by omega) ?_))
                rw [rd_impl_Op_at hi]
                rw [ho] at hop
                refine Ev.bnd hop (Ev.ifp rfl ?_)
                rw [w64 (by omega) (by omega)]
                exact hr)
          (fun _ hs => ⟨true, by
            have : m.f2.any (fun op => !opOkB l.length m.f1 m.f2.length op.f0 op.f1) = false := by
              rw [List.any_eq_false]
              intro op hop
              obtain ⟨j, hj, rfl⟩ := List.mem_iff_getElem.mp hop
              simp [hs j hj hj]
            rw [this]
            rfl, Ev.step (fun k => by rw [spec_l1Method.l0]) (Ev.ifn (by omega) (Ev.now _))⟩)
          () (fun j hj h => absurd h (Nat.not_lt_zero _))
        rw [← hp]
        exact hr
      · rw [if_neg (fun h => c3 h.2.2.2.2)]
        refine Ev.step (fun k => by rw [spec_l1Method.j0]) ?_
        exact Ev.ifp (by simp; omega) (Ev.now _)
    · rw [if_neg (fun h => c2 ⟨h.2.2.1, h.2.2.2.1⟩)]
      refine Ev.bindc (l6In_tells _ _ _) (Ev.ifn (by simp only [decide_eq_true_eq]; exact c2) ?_)
      refine Ev.step (fun k => by rw [spec_l1Method.j0]) ?_
      exact Ev.ifp rfl (Ev.now _)
  · rw [if_neg (fun h => c1 ⟨h.1, h.2.1⟩)]
    refine Ev.bindc (l6In_tells _ _ _) (Ev.ifn (by simp only [decide_eq_true_eq]; exact c1) ?_)
    refine Ev.step (fun k => by rw [spec_l1Method.j0]) ?_
    exact Ev.ifp rfl (Ev.now _)
theorem specProgOk_tells (l : List S_impl_Method) (hl : fewI l) : Ev (fun n => spec_ProgOk.f n l) (progOkB l) := by
  unfold spec_ProgOk.f progOkB
  have hl1 := hl.1
  by_cases c1 : 1 ≤ l.length ∧ l.length ≤ 4
  · refine Ev.bindc (l6In_tells _ _ _) (Ev.ifp (decide_eq_true (by omega)) (Ev.ifp (by omega) ?_))
    by_cases c2 : (rd_impl_Method l 0).f0 = 0
    · rw [if_pos ⟨c1.1, c1.2, c2⟩]
      refine Ev.step (fun k => by rw [spec_ProgOk.j0]) (Ev.ifn (by simp [c2]) ?_)
      obtain ⟨r, hp, hr⟩ := ev_for0 (σ := Unit) (fun k i _ => spec_ProgOk.l0 k i l) l.length (fun i _ => ∀ (j : Nat) (hj : j < l.length), j < i → methodBadB l.length l[j] = false)
        (fun r => r = !(l.any (methodBadB l.length)))
        (fun i _ hi hs => by
          have hm := l1Method_tells l l[i] hl1 (hl.2 _ (List.getElem_mem hi))
          cases ho : methodBadB l.length l[i] with
          | true =>
            refine .inl ⟨false, ?_, ?_⟩
            · have : l.any (methodBadB l.length) = true := List.any_eq_true.mpr ⟨l[i], List.getElem_mem hi, ho⟩
              rw [this]
              rfl
            · refine Ev.step (fun k => by rw [spec_ProgOk.l0]) (Ev.ifp (by omega) (Ev.ifp (by omega) ?_))
              rw [rd_impl_Method_at hi]
              rw [ho] at hm
              exact Ev.bnd hm (Ev.ifn (by simp) (Ev.now _))
          | false =>
            refine .inr ⟨(), fun j hj hji => ?_, fun r hr => ?_⟩
            · by_cases e : j = i
              · subst e; exact ho
              · exact hs j hj (by omega)
            · refine Ev.step (fun k => by rw [spec_ProgOk.l0]) (Ev.ifp (by omega) (Ev.ifp (by omega) ?_))
              rw [rd_impl_Method_at hi]
              rw [ho] at hm
              refine Ev.bnd hm (Ev.ifp rfl ?_)
              rw [w64 (by omega) (by omega)]
              exact hr)
        (fun _ hs => ⟨true, by
          have : l.any (methodBadB l.length) = false := by
            rw [List.any_eq_false]
            intro op hop
            obtain ⟨j, hj, rfl⟩ := List.mem_iff_getElem.mp hop
            simp [hs j hj hj]
          rw [this]
          rfl, Ev.step (fun k => by rw [spec_ProgOk.l0]) (Ev.ifn (by omega) (Ev.now _))⟩)
        () (fun j hj h => absurd h (Nat.not_lt_zero _))
      rw [← hp]
      exact hr
    · rw [if_neg (fun h => c2 h.2.2)]
      refine Ev.step (fun k => by rw [spec_ProgOk.j0]) ?_
      exact Ev.ifp (by simp [c2]) (Ev.now _)
  · rw [if_neg (fun h => c1 ⟨h.1, h.2.1⟩)]
    refine Ev.bindc (l6In_tells _ _ _) (Ev.ifn (by simp only [decide_eq_true_eq]; omega) ?_)
    refine Ev.step (fun k => by rw [spec_ProgOk.j0]) ?_
    exact Ev.ifp rfl (Ev.now _)
def takesB (l : List S_impl_Method) (k a : Int) : Int × Int :=
  if 1 ≤ k ∧ k ≤ 18 then (if k = 9 then (if 0 ≤ a ∧ a < (l.length : Int) then ((rd_impl_Method l a).f0, 1) else (0, 0)) else (mTakes k.toNat, mLeft k.toNat)) else (0, 0)
theorem implOpTakes_tells (l : List S_impl_Method) (k a : Int) : impl_OpTakes.f l k a = some (takesB l k a) := by
  unfold impl_OpTakes.f takesB
  split
  · split
    · split <;> rfl
    · rfl
  · rfl
theorem specOpTakes_tells (l : List S_impl_Method) (k a : Int) (hl : l.length ≤ 1048576) : Ev (fun n => spec_OpTakes.f n l k a) (takesB l k a) := by
  refine Ev.of (fun n => spec_OpTakes.mono _ _ _ n) (k := 5) ?_
  have hw3 : wrap64 ((l.length : Int) - 1) = (l.length : Int) - 1 := w64 (by omega) (by omega)
  unfold takesB
  by_cases hk : 1 ≤ k ∧ k ≤ 18
  · rw [if_pos hk]
    by_cases h9 : k = 9
    · subst h9
      rw [if_pos rfl]
      by_cases ha : 0 ≤ a ∧ a < (l.length : Int)
      · have ha' : 0 ≤ a ∧ a ≤ (l.length : Int) - 1 := by omega
        simp [spec_OpTakes.f, spec_OpTakes.j0, spec_OpTakes.j1, spec_OpTakes.j2, spec_OpTakes.j3, l6In_tells, hw3, ha, ha']
      · have ha' : ¬ (0 ≤ a ∧ a ≤ (l.length : Int) - 1) := by omega
        simp [spec_OpTakes.f, spec_OpTakes.j0, spec_OpTakes.j1, spec_OpTakes.j2, spec_OpTakes.j3, l6In_tells, hw3, ha, ha']
    · rw [if_neg h9]
      obtain ⟨n, rfl⟩ := Int.eq_ofNat_of_zero_le (show 0 ≤ k by omega)
      rcases kinds18 (n := n) (by omega) (by omega) with rfl | rfl | rfl | rfl | rfl | rfl | rfl | rfl | rfl | rfl | rfl | rfl | rfl | rfl | rfl | rfl | rfl | rfl <;>
        first | exact absurd rfl h9 | rfl
  · rw [if_neg hk]
    have e : ∀ z : Int, 1 ≤ z → z ≤ 18 → ¬ k = z := fun z h1 h2 h => hk (by omega)
    simp [spec_OpTakes.f, spec_OpTakes.j0, spec_OpTakes.j1, spec_OpTakes.j2, spec_OpTakes.j3, e]
end Go.Proofs.Ytcllkemhlhbdgaa.G
