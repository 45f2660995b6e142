import Derived.Test.YtcllkemhlhbdgaaK9c2bc3f5
import Derived.Test.YtcllkemhlhbdgaaKf9de2cab
import Derived.Test.YtcllkemhlhbdgaaKd0dabed6
import Derived.Test.YtcllkemhlhbdgaaKa1f4e442
import Derived.Test.YtcllkemhlhbdgaaKe050f62c
import Derived.Test.YtcllkemhlhbdgaaK18016872
namespace Go.Proofs.Ytcllkemhlhbdgaa.G
open Go.RowKit Go.Proofs.YtcllkemhlhbdgaaW.PrintWords Go.Proofs.YtcllkemhlhbdgaaW.PrintLast Go.Proofs.YtcllkemhlhbdgaaW.PrintMore
attribute [local go_sem] max2_int min2_int max_two min_two max_three min_three max_four min_four
set_option linter.unusedVariables false
set_option linter.unusedSimpArgs false
def spec_DeepAt.j0 : Nat → Int → Bool → List (S_impl_Method) → Option (List Int × Bool)
  | 0, _, _, _ => none
  | k + 1, x1, x19, x102000 => if x19 = true then (some ((([] : List Int)), false)) else (if 0 ≤ x1 then (if x1 < (x102000.length : Int) then ((spec_l2At.f k x102000 ((rd_impl_Method x102000 x1).f0) ((rd_impl_Method x102000 x1).f1) ((rd_impl_Method x102000 x1).f2)).bind fun bt108 => (if bt108.2 = true then (some (bt108.1, true)) else (some ((([] : List Int)), false)))) else (none)) else (none))
def spec_DeepAt.f (k : Nat) (l0_0 : List (S_impl_Method)) (a1 : Int) : Option (List Int × Bool) := (spec_ProgOk.f k l0_0).bind fun t102 => (if t102 = true then ((spec_l6In.f a1 0 (wrap64 ((l0_0.length : Int) - 1))).bind fun t103 => (spec_DeepAt.j0 k a1 (!t103) l0_0)) else (spec_DeepAt.j0 k a1 true l0_0))
theorem spec_DeepAt.mono_l : ∀ k, (∀ y0 y1 y2, LeO (spec_DeepAt.j0 k y0 y1 y2) (spec_DeepAt.j0 (k + 1) y0 y1 y2))
  | 0 => fun _ _ _ r h => by simp [spec_DeepAt.j0] at h
  | k + 1 => by
    have ih0 := spec_DeepAt.mono_l k
    · intro y0 y1 y2
      unfold spec_DeepAt.j0
      repeat' first
      | (with_reducible exact ih0 _ _ _)
      | (with_reducible exact spec_ProgOk.mono _ _)
      | (with_reducible exact spec_l2At.mono _ _ _ _ _)
      | (with_reducible exact LeO.refl _)
      | (with_reducible exact LeO.none _)
      | (with_reducible refine LeO.ite ?_ ?_)
      | (with_reducible refine LeO.bind ?_ (fun _ => ?_))
      | exact ih0 _ _ _
      | exact spec_ProgOk.mono _ _
      | exact spec_l2At.mono _ _ _ _ _
      | exact LeO.none _
      | refine LeO.ite ?_ ?_
      | refine LeO.bind ?_ (fun _ => ?_)
theorem spec_DeepAt.mono : ∀ a0 a1 k, LeO (spec_DeepAt.f k a0 a1) (spec_DeepAt.f (k + 1) a0 a1) := by
  intro a0 a1 k
  have ih0 := spec_DeepAt.mono_l k
  unfold spec_DeepAt.f
  repeat' first
      | (with_reducible exact ih0 _ _ _)
      | (with_reducible exact spec_ProgOk.mono _ _)
      | (with_reducible exact spec_l2At.mono _ _ _ _ _)
      | (with_reducible exact LeO.refl _)
      | (with_reducible exact LeO.none _)
      | (with_reducible refine LeO.ite ?_ ?_)
      | (with_reducible refine LeO.bind ?_ (fun _ => ?_))
      | exact ih0 _ _ _
      | exact spec_ProgOk.mono _ _
      | exact spec_l2At.mono _ _ _ _ _
      | exact LeO.none _
      | refine LeO.ite ?_ ?_
      | refine LeO.bind ?_ (fun _ => ?_)
def spec_DeepAt.T3 : Bool × List (List Nat × List Nat) := (true, [([], []), ([], []), ([1], [1]), ([], []), ([2, 3], [2, 3]), ([4], [4]), ([0, 5], [0, 5]), ([6], [6]), ([7], [7]), ([7], [7]), ([8, 6, 0, 1, 2, 3, 4, 5, 6, 7, 8], [8]), ([9, 10, 0, 1, 2, 3, 4, 5, 6, 7, 8, 9, 10], [9])])
def spec_DeepAt.B3 : List Nat := [0, 0, 2, 0, 14, 30, 63, 127, 255, 255, 511, 2047]
theorem spec_DeepAt.tab3 : rtab .any (opsOf Try.f41 3) = spec_DeepAt.T3 := by kernel_rfl
theorem spec_DeepAt.bits3 : waitsOk spec_DeepAt.T3.2 spec_DeepAt.B3 = true := by kernel_rfl
set_option maxHeartbeats 8000000 in
set_option maxRecDepth 100000 in
theorem spec_DeepAt.calls (k : Nat) (A0_0 : Option Addr) (c0_0 : Nat) (l0_0 : List (S_impl_Method)) (a1 : Int) (r1 : List Int) (r2 : Bool) (w : World) (hr0_0 : Kd.C k_impl_Method w A0_0 l0_0.length l0_0) (hc0_0 : l0_0.length ≤ c0_0) (h : spec_DeepAt.f k l0_0 a1 = some (r1, r2)) :
    Calls Try.prog 41 #[.agg #[.slice A0_0 l0_0.length c0_0], .int .i64 a1] w fun e w' => ∃ v0_ : Value, e = .returned (.tuple #[v0_, .bool r2]) ∧ Kd.R (Kd.int .i64) 3 w' w.heap.size (fun _ => True) v0_ r1 ∧ Below w.heap.size w w' := by
  have hu46 := Try.underlying46
  have hu59 := Try.underlying59
  have HR0_0 := Aside0.mk hr0_0
  have HC0_0 := Aside0.mk hc0_0
  clear hr0_0 hc0_0
  have HB := Aside0.mk (Below.refl w.heap.size w)
  have H : ((spec_ProgOk.f k l0_0).bind fun t102 => (if t102 = true then ((spec_l6In.f a1 0 (wrap64 ((l0_0.length : Int) - 1))).bind fun t103 => (spec_DeepAt.j0 k a1 (!t103) l0_0)) else (spec_DeepAt.j0 k a1 true l0_0))) = some (r1, r2) := h
  clear h
  have HC3 := Aside0.mk H
  clear H
  go_enter Try.func41, Try.ntmps41
  go_upto_region 1 with (first | ((with_reducible refine gate_dst (N := 2) rfl ?_); (try (refine gate_guard (by rfl) ?_; dsimp only)); refine box_event ?hg (N := 2) ?hd (cs := #[.slice A0_0 l0_0.length c0_0]) (t := 46) ?hr ?_; (case hd => rfl); (case hg => rfl); (case hr => first | (go_simp; done) | (go_simp; rfl)); intro gb101 hg w4 hbox hb; have n0_ := Aside0.mk (below_step (bw_) hb); have n1_ := Aside0.mk (hbox); have n2_ := Aside0.mk ((by rw [hg]; exact (below_size (bw_)) : w.heap.size ≤ gb101)); have n3_ := Aside0.mk ((by rw [hg]; exact (below_size (bw_)) : w.heap.size ≤ gb101)); clear HB; have HB := n0_; have BK101 := n1_; have GW101 := n2_; have GE101 := n3_; clear n0_ n1_ n2_ n3_; clear hb hbox hg))
  (try simp only [Act.put, List.setIfInBounds_toArray, List.set_cons_zero, List.set_cons_succ])
  go_cut [19] (fun v19 wc => ∃ (kq : Nat) (x19_2 : Bool), v19 = .bool x19_2 ∧ Aside0 (spec_DeepAt.j0 kq a1 x19_2 l0_0 = some (r1, r2)) ∧ Aside0 (kq ≤ k) ∧ Aside0 (wc.heap[gb101]? = some (.cells #[(.slice A0_0 l0_0.length c0_0)] 46 (0, 0))) ∧ Aside0 (Below w.heap.size w wc))
  case first =>
    have H := HC3.out
    clear HC3
    replace H := Option.bind_eq_some_iff.mp H
    obtain ⟨t102, A50, H⟩ := H
    replace H : (if t102 = true then ((spec_l6In.f a1 0 (wrap64 ((l0_0.length : Int) - 1))).bind fun t103 => (spec_DeepAt.j0 k a1 (!t103) l0_0)) else (spec_DeepAt.j0 k a1 true l0_0)) = some (r1, r2) := H
    have A5 := Aside0.mk A50
    clear A50
    by_cases c6 : t102 = true
    · subst c6
      have H1 : ((spec_l6In.f a1 0 (wrap64 ((l0_0.length : Int) - 1))).bind fun t103 => (spec_DeepAt.j0 k a1 (!t103) l0_0)) = some (r1, r2) := by rw [if_pos rfl] at H; exact H
      clear H
      have H := H1
      clear H1
      replace H := Option.bind_eq_some_iff.mp H
      obtain ⟨t103, A70, H⟩ := H
      replace H : (spec_DeepAt.j0 k a1 (!t103) l0_0) = some (r1, r2) := H
      have A7 := Aside0.mk A70
      clear A70
      have H' := Aside0.mk H
      clear H
      have hcz8_0 : w4.cell? ⟨gb101, 0, none⟩ = some (.slice A0_0 l0_0.length c0_0) := (blk_cell BK101.out 0).trans rfl
      have hfz8_0 := blk_frozen BK101.out 0
      go_wp2_with (first | ((with_reducible refine gate_callee (f := 26) rfl ?_); refine goesL_ (some 9) rfl rfl Try.func26 (by kernel_rfl) rfl #[.agg #[.slice A0_0 l0_0.length c0_0]] rfl (by (try simp only [List.map_toArray, List.map_cons, List.map_nil]); first | done | rfl | (simp only [List.length_drop, List.length_take]; rfl)) ?_; (with_reducible refine (spec_ProgOk.calls k _ _ l0_0 true _ ?side1 ?side2 A5.out).mono ?_); (case side1 => exact cb_); (case side2 => exact HC0_0.out); rintro e w9 ⟨rfl, hb⟩; refine ⟨_, rfl, ?_⟩; have n0_ := Aside0.mk (blk_below (g := gb101) (o := .cells #[.slice A0_0 l0_0.length c0_0] 46 (0, 0)) (by (with_reducible repeat (first | refine blk_drewN ?_ _ | refine blk_drew ?_ | refine blk_alloc ?_ _)); exact BK101.out) hb); have n1_ := Aside0.mk (below_step (bw_) hb); clear BK101; clear HB; have BK101 := n0_; have HB := n1_; clear n0_ n1_; (try clear hb); (try clear hb2); (try clear hk); (try clear hi); obtain ⟨hcz10_0, hfz10_0⟩ := blkF1_ BK101.out) | (go_at_call 57; (with_reducible refine (spec_l6In.calls a1 0 (wrap64 ((l0_0.length : Int) - 1)) t103 _ A7.out).mono ?_); rintro e w' ⟨rfl, ⟨nd, rfl⟩⟩))
      go_meet
      case rel => exact ⟨_, (!t103), (by first | rfl | (simp; done) | (simp [*]; done)), H', ⟨by first | omega | exact Nat.le_refl _⟩, ⟨by (with_reducible repeat (first | refine blk_drewN ?_ _ | refine blk_drew ?_ | refine blk_alloc ?_ _)); exact BK101.out⟩, ⟨bw_⟩⟩
    · replace c6 := Bool.eq_false_iff.mpr c6
      subst c6
      have H1 : (spec_DeepAt.j0 k a1 true l0_0) = some (r1, r2) := by rw [if_neg (show ¬ (false = true) by decide)] at H; exact H
      clear H
      have H := H1
      clear H1
      have H' := Aside0.mk H
      clear H
      have hcz11_0 : w4.cell? ⟨gb101, 0, none⟩ = some (.slice A0_0 l0_0.length c0_0) := (blk_cell BK101.out 0).trans rfl
      have hfz11_0 := blk_frozen BK101.out 0
      go_wp2_with (first | ((with_reducible refine gate_callee (f := 26) rfl ?_); refine goesL_ (some 9) rfl rfl Try.func26 (by kernel_rfl) rfl #[.agg #[.slice A0_0 l0_0.length c0_0]] rfl (by (try simp only [List.map_toArray, List.map_cons, List.map_nil]); first | done | rfl | (simp only [List.length_drop, List.length_take]; rfl)) ?_; (with_reducible refine (spec_ProgOk.calls k _ _ l0_0 false _ ?side1 ?side2 A5.out).mono ?_); (case side1 => exact cb_); (case side2 => exact HC0_0.out); rintro e w12 ⟨rfl, hb⟩; refine ⟨_, rfl, ?_⟩; have n0_ := Aside0.mk (blk_below (g := gb101) (o := .cells #[.slice A0_0 l0_0.length c0_0] 46 (0, 0)) (by (with_reducible repeat (first | refine blk_drewN ?_ _ | refine blk_drew ?_ | refine blk_alloc ?_ _)); exact BK101.out) hb); have n1_ := Aside0.mk (below_step (bw_) hb); clear BK101; clear HB; have BK101 := n0_; have HB := n1_; clear n0_ n1_; (try clear hb); (try clear hb2); (try clear hk); (try clear hi)))
      go_meet
      case rel => exact ⟨_, (true), (by first | rfl | (simp; done) | (simp [*]; done)), H', ⟨by first | omega | exact Nat.le_refl _⟩, ⟨by (with_reducible repeat (first | refine blk_drewN ?_ _ | refine blk_drew ?_ | refine blk_alloc ?_ _)); exact BK101.out⟩, ⟨bw_⟩⟩
  case rest =>
    clear HC3
    try clear c2
    try clear p2
    try clear c4
    try clear c6
    try clear p6
    try clear hcz10_0
    try clear hcz11_0
    try clear hcz8_0
    try clear hfz10_0
    try clear hfz11_0
    try clear hfz8_0
    obtain ⟨kq, x19_2, rfl, HA, HJ2, BK101, HB⟩ := hcut
    cases kq with
    | zero => exact absurd HA.out (by simp [spec_DeepAt.j0])
    | succ kj2 =>
      have H := HA.out
      clear HA
      simp only [spec_DeepAt.j0] at H
      by_cases c13 : x19_2 = true
      · subst c13
        have H1 : (some ((([] : List Int)), false)) = some (r1, r2) := by rw [if_pos rfl] at H; exact H
        clear H
        have H := H1
        clear H1
        obtain ⟨y104, hy104⟩ : ∃ y_ : List Int, y_ = (([] : List Int)) := ⟨_, rfl⟩
        replace H : (some (y104, false)) = some (r1, r2) := by first | (rw [hy104]; with_reducible exact H) | (have H2_ := (Option.bind_some _ _).symm.trans H; rw [hy104]; with_reducible exact H2_) | (have H2_ := (Option.bind_some _ _).symm.trans H; with_reducible exact H2_) | with_reducible exact H | (rw [hy104]; exact H) | exact H
        have Ny104 := Aside0.mk hy104
        clear hy104
        simp only [Option.some.injEq, Prod.mk.injEq] at H
        obtain ⟨rfl, rfl⟩ := H
        go_wp2_with (first | ((with_reducible refine gate_dst (N := 20) rfl ?_); (try (refine gate_guard (by rfl) ?_; dsimp only)); refine Kd.R_lit (Kd.int .i64) _ 3 ?hg (N := 20) ?hd (xs := ([] : List Int)) (inner := []) (ok := fun _ => True) (okp := fun _ => True) ?hr ?hp (fun _ hk => hk) trivial (Below.refl _ _) (Nat.le_refl _) (by simp) ?_; (case hd => rfl); (case hg => rfl); (case hr => first | (go_simp; done) | (go_simp; rfl)); (case hp => exact (Reps.none _ _)); intro v105 w14 ho15 hb hg_ hnew_; clear hg_ hnew_; (first | rw [← Ny104.out] at ho15 | (simp only [Int.reduceToNat] at ho15; rw [← Ny104.out] at ho15)); have n0_ := Aside0.mk (Kd.R_lower ho15 (below_size (bw_))); have n1_ := Aside0.mk (blk_below (g := gb101) (o := .cells #[.slice A0_0 l0_0.length c0_0] 46 (0, 0)) (by (with_reducible repeat (first | refine blk_drewN ?_ _ | refine blk_drew ?_ | refine blk_alloc ?_ _)); exact BK101.out) hb); have n2_ := Aside0.mk (below_step (bw_) hb); clear BK101; clear HB; have HO106 := n0_; have BK101 := n1_; have HB := n2_; clear n0_ n1_ n2_; clear hb ho15))
        go_ret2
        exact ⟨_, by first | rfl | (simp [errW_none, errW_some] <;> rfl) | (simp [*, errW_none, errW_some] <;> rfl), by (with_reducible repeat (first | apply Kd.R_alloc | apply Kd.R_drewN | apply Kd.R_drew)); exact HO106.out, bw_⟩
      · replace c13 := Bool.eq_false_iff.mpr c13
        subst c13
        have H1 : (if 0 ≤ a1 then (if a1 < (l0_0.length : Int) then ((spec_l2At.f kj2 l0_0 ((rd_impl_Method l0_0 a1).f0) ((rd_impl_Method l0_0 a1).f1) ((rd_impl_Method l0_0 a1).f2)).bind fun bt108 => (if bt108.2 = true then (some (bt108.1, true)) else (some ((([] : List Int)), false)))) else (none)) else (none)) = some (r1, r2) := by rw [if_neg (show ¬ (false = true) by decide)] at H; exact H
        clear H
        have H := H1
        clear H1
        by_cases c16 : 0 ≤ a1
        · rw [if_pos c16] at H
          have c16b0 : decide (0 ≤ a1) = true := decide_eq_true c16
          clear c16
          by_cases c17 : a1 < (l0_0.length : Int)
          · rw [if_pos c17] at H
            have c17b0 : decide (a1 < (l0_0.length : Int)) = true := decide_eq_true c17
            clear c17
            replace H := Option.bind_eq_some_iff.mp H
            obtain ⟨⟨t108, t111⟩, A180, H⟩ := H
            replace H : (if t111 = true then (some (t108, true)) else (some ((([] : List Int)), false))) = some (r1, r2) := H
            have A18 := Aside0.mk A180
            clear A180
            by_cases c19 : t111 = true
            · subst c19
              have H1 : (some (t108, true)) = some (r1, r2) := by rw [if_pos rfl] at H; exact H
              clear H
              have H := H1
              clear H1
              simp only [Option.some.injEq, Prod.mk.injEq] at H
              obtain ⟨rfl, rfl⟩ := H
              try go_wp2
              have n0_ := Aside0.mk (blk_drew BK101.out)
              have n1_ := Aside0.mk (below_drew1 HB.out)
              clear BK101
              clear HB
              have BK101 := n0_
              have HB := n1_
              clear n0_ n1_
              have p107 : 0 ≤ (a1 : Int) := of_decide_eq_true (by first | (with_reducible assumption) | assumption)
              have q107 : a1 < (l0_0.length : Int) := of_decide_eq_true (by first | (with_reducible assumption) | assumption)
              obtain ⟨ad107, A107_2, c107_2, e107, hx107_0, hx107_1, hx107_2, hl107_2, hi107_2⟩ := at_impl_Method HR0_0.out a1 p107 q107
              have hw107_2 := hx107_2
              have hw107_1 := hx107_1
              have hw107_0 := hx107_0
              cases e107
              replace hx107_0 := (HB.out.cell (World.block_lt_of_cell? w _ hx107_0)).trans hx107_0
              replace hx107_1 := (HB.out.cell (World.block_lt_of_cell? w _ hx107_1)).trans hx107_1
              replace hx107_2 := (HB.out.cell (World.block_lt_of_cell? w _ hx107_2)).trans hx107_2
              have HR107_2 := Aside0.mk hi107_2
              have HC107_2 := Aside0.mk hl107_2
              clear hi107_2 hl107_2
              replace p107 := eq_true p107
              replace q107 := eq_true q107
              refine start_ (n := 12) (S := fun w' => w'.cell? ⟨gb101, 0, none⟩ = some (.slice (some ad107) l0_0.length c0_0) ∧ w'.cell? (ad107.add ((a1).toNat * 3)) = some (.int .i64 ((rd_impl_Method l0_0 a1).f0)) ∧ w'.cell? ⟨(ad107.add ((a1).toNat * 3)).block, (ad107.add ((a1).toNat * 3)).off + 1, none⟩ = some (.int .i64 ((rd_impl_Method l0_0 a1).f1)) ∧ w'.cell? ⟨(ad107.add ((a1).toNat * 3)).block, (ad107.add ((a1).toNat * 3)).off + 2, none⟩ = some (.slice A107_2 ((rd_impl_Method l0_0 a1).f2).length c107_2)) (ds := []) #[false, false, false, false, false, false, false, false, false, false, false, false] (by kernel_rfl) rfl rfl ⟨(blk_cell BK101.out 0).trans rfl, ((HB.out.cell (World.block_lt_of_cell? w _ hw107_0)).trans hw107_0), ((HB.out.cell (World.block_lt_of_cell? w _ hw107_1)).trans hw107_1), ((HB.out.cell (World.block_lt_of_cell? w _ hw107_2)).trans hw107_2)⟩ (fun hHeld => ?_); refine with_tabW spec_DeepAt.tab3 spec_DeepAt.bits3 (fun HT_ HW_ => ?_)
              generalize wc.drew = w20 at BK101 HB HR107_2 hx107_0 hx107_1 hx107_2 hHeld ⊢
              refine pure_ (i := 1) (N := some 23) (v := ?_) (a' := ?_) #[false, true, false, false, false, false, false, false, false, false, false, false] rfl rfl (any_of HT_.out (by kernel_rfl)) (fun _ _ _ h => h) (Or.inl ⟨by rfl, ?_⟩) ?_ ?_
              rotate_left
              · intro w'
                go_simp
                with_reducible rfl
              rotate_left
              · simp only [Act.put, List.setIfInBounds_toArray, List.set_cons_zero, List.set_cons_succ, i64_w, i32_w]
                rfl
              refine pure_ (i := 3) (N := some 25) (v := ?_) (a' := ?_) #[false, true, false, true, false, false, false, false, false, false, false, false] rfl rfl (any_of HT_.out (by kernel_rfl)) (fun _ _ _ h => h) (Or.inl ⟨by rfl, ?_⟩) ?_ ?_
              rotate_left
              · intro w'
                go_simp
                with_reducible rfl
              rotate_left
              · simp only [Act.put, List.setIfInBounds_toArray, List.set_cons_zero, List.set_cons_succ, i64_w, i32_w]
                rfl
              refine take_ (i := 0) (N := some 22) (v := ?_) (a' := ?_) #[true, true, false, true, false, false, false, false, false, false, false, false] rfl rfl (take_ofW HT_.out HW_.out (by kernel_rfl)) (fun _ _ _ h => h) (Or.inl ⟨by rfl, ?_⟩) hHeld ?_ ?_
              rotate_left
              · rintro w' ⟨s0, s1, s2, s3⟩
                go_simp
                with_reducible rfl
              rotate_left
              · simp only [Act.put, List.setIfInBounds_toArray, List.set_cons_zero, List.set_cons_succ, i64_w, i32_w]
                rfl
              refine take_ (i := 2) (N := some 24) (v := ?_) (a' := ?_) #[true, true, true, true, false, false, false, false, false, false, false, false] rfl rfl (take_ofW HT_.out HW_.out (by kernel_rfl)) (fun _ _ _ h => h) (Or.inl ⟨by rfl, ?_⟩) hHeld ?_ ?_
              rotate_left
              · rintro w' ⟨s0, s1, s2, s3⟩
                go_simp
                with_reducible rfl
              rotate_left
              · simp only [Act.put, List.setIfInBounds_toArray, List.set_cons_zero, List.set_cons_succ, i64_w, i32_w]
                rfl
              refine pure_ (i := 4) (N := some 26) (v := ?_) (a' := ?_) #[true, true, true, true, true, false, false, false, false, false, false, false] rfl rfl (any_of HT_.out (by kernel_rfl)) (fun _ _ _ h => h) (Or.inl ⟨by rfl, ?_⟩) ?_ ?_
              rotate_left
              · intro w'
                go_simp
                with_reducible rfl
              rotate_left
              · simp only [Act.put, List.setIfInBounds_toArray, List.set_cons_zero, List.set_cons_succ, i64_w, i32_w]
                rfl
              refine take_ (i := 5) (N := some 27) (v := ?_) (a' := ?_) #[true, true, true, true, true, true, false, false, false, false, false, false] rfl rfl (take_ofW HT_.out HW_.out (by kernel_rfl)) (fun _ _ _ h => h) (Or.inl ⟨by rfl, ?_⟩) hHeld ?_ ?_
              rotate_left
              · rintro w' ⟨s0, s1, s2, s3⟩
                go_simp
                with_reducible rfl
              rotate_left
              · simp only [Act.put, List.setIfInBounds_toArray, List.set_cons_zero, List.set_cons_succ, i64_w, i32_w]
                rfl
              refine one_ (i := 6) (N := some 28) #[true, true, true, true, true, true, true, false, false, false, false, false] rfl rfl (one_of HT_.out (by kernel_rfl)) (by decide) (fun K hK => ?_)
              refine goes_ Try.func83 (by kernel_rfl) rfl #[.agg #[.slice (some ad107) l0_0.length c0_0], .agg #[.int .i64 ((rd_impl_Method l0_0 a1).f0), .int .i64 ((rd_impl_Method l0_0 a1).f1), .slice A107_2 ((rd_impl_Method l0_0 a1).f2).length c107_2]] (by rfl) rfl rfl (by (try simp only [List.map_toArray, List.map_cons, List.map_nil]); first | done | rfl | (simp only [List.length_drop, List.length_take]; rfl)) ?_
              with_reducible refine (spec_l2At.calls kj2 _ _ l0_0 ((rd_impl_Method l0_0 a1).f0) ((rd_impl_Method l0_0 a1).f1) _ _ ((rd_impl_Method l0_0 a1).f2) t108 true _ ?side1 ?side2 ?side3 ?side4 A18.out).mono ?_
              (case side1 => exact cb_)
              (case side2 => exact HC0_0.out)
              (case side3 => exact cb_)
              (case side4 => exact HC107_2.out)
              rintro e w21 ⟨v109, rfl, ho0, hb⟩
              refine ⟨_, rfl, ?_⟩
              have n0_ := Aside0.mk (Kd.R_lower ho0 (below_size (bw_)))
              have n1_ := Aside0.mk (blk_below (g := gb101) (o := .cells #[.slice (some ad107) l0_0.length c0_0] 46 (0, 0)) (by (with_reducible repeat (first | refine blk_drewN ?_ _ | refine blk_drew ?_ | refine blk_alloc ?_ _)); exact BK101.out) hb)
              have n2_ := Aside0.mk (below_step (bw_) hb)
              clear BK101
              clear HB
              have HO110 := n0_
              have BK101 := n1_
              have HB := n2_
              clear n0_ n1_ n2_
              (try clear hb)
              (try clear hb2)
              (try clear hk)
              (try clear hi)
              (try clear ho0)
              refine hK.out _ _ ⟨(blk_cell BK101.out 0).trans rfl, ((HB.out.cell (World.block_lt_of_cell? w _ hw107_0)).trans hw107_0), ((HB.out.cell (World.block_lt_of_cell? w _ hw107_1)).trans hw107_1), ((HB.out.cell (World.block_lt_of_cell? w _ hw107_2)).trans hw107_2)⟩ (fun hHeld => ?_)
              clear hK K
              refine norm_ (a' := ?_) ?_ ?_
              rotate_left
              · show Act.put _ (some 28) _ = _
                simp only [Act.put, List.setIfInBounds_toArray, List.set_cons_zero, List.set_cons_succ, i64_w, i32_w]
                rfl
              refine pure_ (i := 7) (N := some 21) (v := ?_) (a' := ?_) #[true, true, true, true, true, true, true, true, false, false, false, false] rfl rfl (any_of HT_.out (by kernel_rfl)) (fun _ _ _ h => h) (Or.inl ⟨by rfl, ?_⟩) ?_ ?_
              rotate_left
              · intro w'
                go_simp
                with_reducible rfl
              rotate_left
              · simp only [Act.put, List.setIfInBounds_toArray, List.set_cons_zero, List.set_cons_succ, i64_w, i32_w]
                rfl
              refine pure_ (i := 8) (N := some 29) (v := ?_) (a' := ?_) #[true, true, true, true, true, true, true, true, true, false, false, false] rfl rfl (any_of HT_.out (by kernel_rfl)) (fun _ _ _ h => h) (Or.inl ⟨by rfl, ?_⟩) ?_ ?_
              rotate_left
              · intro w'
                go_simp
                with_reducible rfl
              rotate_left
              · simp only [Act.put, List.setIfInBounds_toArray, List.set_cons_zero, List.set_cons_succ, i64_w, i32_w]
                rfl
              refine pure_ (i := 9) (N := some 30) (v := ?_) (a' := ?_) #[true, true, true, true, true, true, true, true, true, true, false, false] rfl rfl (any_of HT_.out (by kernel_rfl)) (fun _ _ _ h => h) (Or.inl ⟨by rfl, ?_⟩) ?_ ?_
              rotate_left
              · intro w'
                go_simp
                with_reducible rfl
              rotate_left
              · simp only [Act.put, List.setIfInBounds_toArray, List.set_cons_zero, List.set_cons_succ, i64_w, i32_w]
                rfl
              refine pure_ (i := 10) (N := some 6) (v := ?_) (a' := ?_) #[true, true, true, true, true, true, true, true, true, true, true, false] rfl rfl (any_of HT_.out (by kernel_rfl)) (fun _ _ _ h => h) (Or.inl ⟨by rfl, ?_⟩) ?_ ?_
              rotate_left
              · intro w'
                go_simp
                with_reducible rfl
              rotate_left
              · simp only [Act.put, List.setIfInBounds_toArray, List.set_cons_zero, List.set_cons_succ, i64_w, i32_w]
                rfl
              refine pure_ (i := 11) (N := some 7) (v := ?_) (a' := ?_) #[true, true, true, true, true, true, true, true, true, true, true, true] rfl rfl (any_of HT_.out (by kernel_rfl)) (fun _ _ _ h => h) (Or.inl ⟨by rfl, ?_⟩) ?_ ?_
              rotate_left
              · intro w'
                go_simp
                with_reducible rfl
              rotate_left
              · simp only [Act.put, List.setIfInBounds_toArray, List.set_cons_zero, List.set_cons_succ, i64_w, i32_w]
                rfl
              refine done_ (done_of HT_.out (by kernel_rfl)) ?_
              try go_wp2
              go_ret2
              exact ⟨_, by first | rfl | (simp [errW_none, errW_some] <;> rfl) | (simp [*, errW_none, errW_some] <;> rfl), by (with_reducible repeat (first | apply Kd.R_alloc | apply Kd.R_drewN | apply Kd.R_drew)); exact HO110.out, bw_⟩
            · replace c19 := Bool.eq_false_iff.mpr c19
              subst c19
              have H1 : (some ((([] : List Int)), false)) = some (r1, r2) := by rw [if_neg (show ¬ (false = true) by decide)] at H; exact H
              clear H
              have H := H1
              clear H1
              obtain ⟨y112, hy112⟩ : ∃ y_ : List Int, y_ = (([] : List Int)) := ⟨_, rfl⟩
              replace H : (some (y112, false)) = some (r1, r2) := by first | (rw [hy112]; with_reducible exact H) | (have H2_ := (Option.bind_some _ _).symm.trans H; rw [hy112]; with_reducible exact H2_) | (have H2_ := (Option.bind_some _ _).symm.trans H; with_reducible exact H2_) | with_reducible exact H | (rw [hy112]; exact H) | exact H
              have Ny112 := Aside0.mk hy112
              clear hy112
              simp only [Option.some.injEq, Prod.mk.injEq] at H
              obtain ⟨rfl, rfl⟩ := H
              try go_wp2
              have n0_ := Aside0.mk (blk_drew BK101.out)
              have n1_ := Aside0.mk (below_drew1 HB.out)
              clear BK101
              clear HB
              have BK101 := n0_
              have HB := n1_
              clear n0_ n1_
              have p107 : 0 ≤ (a1 : Int) := of_decide_eq_true (by first | (with_reducible assumption) | assumption)
              have q107 : a1 < (l0_0.length : Int) := of_decide_eq_true (by first | (with_reducible assumption) | assumption)
              obtain ⟨ad107, A107_2, c107_2, e107, hx107_0, hx107_1, hx107_2, hl107_2, hi107_2⟩ := at_impl_Method HR0_0.out a1 p107 q107
              have hw107_2 := hx107_2
              have hw107_1 := hx107_1
              have hw107_0 := hx107_0
              cases e107
              replace hx107_0 := (HB.out.cell (World.block_lt_of_cell? w _ hx107_0)).trans hx107_0
              replace hx107_1 := (HB.out.cell (World.block_lt_of_cell? w _ hx107_1)).trans hx107_1
              replace hx107_2 := (HB.out.cell (World.block_lt_of_cell? w _ hx107_2)).trans hx107_2
              have HR107_2 := Aside0.mk hi107_2
              have HC107_2 := Aside0.mk hl107_2
              clear hi107_2 hl107_2
              replace p107 := eq_true p107
              replace q107 := eq_true q107
              refine start_ (n := 12) (S := fun w' => w'.cell? ⟨gb101, 0, none⟩ = some (.slice (some ad107) l0_0.length c0_0) ∧ w'.cell? (ad107.add ((a1).toNat * 3)) = some (.int .i64 ((rd_impl_Method l0_0 a1).f0)) ∧ w'.cell? ⟨(ad107.add ((a1).toNat * 3)).block, (ad107.add ((a1).toNat * 3)).off + 1, none⟩ = some (.int .i64 ((rd_impl_Method l0_0 a1).f1)) ∧ w'.cell? ⟨(ad107.add ((a1).toNat * 3)).block, (ad107.add ((a1).toNat * 3)).off + 2, none⟩ = some (.slice A107_2 ((rd_impl_Method l0_0 a1).f2).length c107_2)) (ds := []) #[false, false, false, false, false, false, false, false, false, false, false, false] (by kernel_rfl) rfl rfl ⟨(blk_cell BK101.out 0).trans rfl, ((HB.out.cell (World.block_lt_of_cell? w _ hw107_0)).trans hw107_0), ((HB.out.cell (World.block_lt_of_cell? w _ hw107_1)).trans hw107_1), ((HB.out.cell (World.block_lt_of_cell? w _ hw107_2)).trans hw107_2)⟩ (fun hHeld => ?_); refine with_tabW spec_DeepAt.tab3 spec_DeepAt.bits3 (fun HT_ HW_ => ?_)
              generalize wc.drew = w22 at BK101 HB HR107_2 hx107_0 hx107_1 hx107_2 hHeld ⊢
              refine pure_ (i := 1) (N := some 23) (v := ?_) (a' := ?_) #[false, true, false, false, false, false, false, false, false, false, false, false] rfl rfl (any_of HT_.out (by kernel_rfl)) (fun _ _ _ h => h) (Or.inl ⟨by rfl, ?_⟩) ?_ ?_
              rotate_left
              · intro w'
                go_simp
                with_reducible rfl
              rotate_left
              · simp only [Act.put, List.setIfInBounds_toArray, List.set_cons_zero, List.set_cons_succ, i64_w, i32_w]
                rfl
              refine pure_ (i := 3) (N := some 25) (v := ?_) (a' := ?_) #[false, true, false, true, false, false, false, false, false, false, false, false] rfl rfl (any_of HT_.out (by kernel_rfl)) (fun _ _ _ h => h) (Or.inl ⟨by rfl, ?_⟩) ?_ ?_
              rotate_left
              · intro w'
                go_simp
                with_reducible rfl
              rotate_left
              · simp only [Act.put, List.setIfInBounds_toArray, List.set_cons_zero, List.set_cons_succ, i64_w, i32_w]
                rfl
              refine take_ (i := 0) (N := some 22) (v := ?_) (a' := ?_) #[true, true, false, true, false, false, false, false, false, false, false, false] rfl rfl (take_ofW HT_.out HW_.out (by kernel_rfl)) (fun _ _ _ h => h) (Or.inl ⟨by rfl, ?_⟩) hHeld ?_ ?_
              rotate_left
              · rintro w' ⟨s0, s1, s2, s3⟩
                go_simp
                with_reducible rfl
              rotate_left
              · simp only [Act.put, List.setIfInBounds_toArray, List.set_cons_zero, List.set_cons_succ, i64_w, i32_w]
                rfl
              refine take_ (i := 2) (N := some 24) (v := ?_) (a' := ?_) #[true, true, true, true, false, false, false, false, false, false, false, false] rfl rfl (take_ofW HT_.out HW_.out (by kernel_rfl)) (fun _ _ _ h => h) (Or.inl ⟨by rfl, ?_⟩) hHeld ?_ ?_
              rotate_left
              · rintro w' ⟨s0, s1, s2, s3⟩
                go_simp
                with_reducible rfl
              rotate_left
              · simp only [Act.put, List.setIfInBounds_toArray, List.set_cons_zero, List.set_cons_succ, i64_w, i32_w]
                rfl
              refine pure_ (i := 4) (N := some 26) (v := ?_) (a' := ?_) #[true, true, true, true, true, false, false, false, false, false, false, false] rfl rfl (any_of HT_.out (by kernel_rfl)) (fun _ _ _ h => h) (Or.inl ⟨by rfl, ?_⟩) ?_ ?_
              rotate_left
              · intro w'
                go_simp
                with_reducible rfl
              rotate_left
              · simp only [Act.put, List.setIfInBounds_toArray, List.set_cons_zero, List.set_cons_succ, i64_w, i32_w]
                rfl
              refine take_ (i := 5) (N := some 27) (v := ?_) (a' := ?_) #[true, true, true, true, true, true, false, false, false, false, false, false] rfl rfl (take_ofW HT_.out HW_.out (by kernel_rfl)) (fun _ _ _ h => h) (Or.inl ⟨by rfl, ?_⟩) hHeld ?_ ?_
              rotate_left
              · rintro w' ⟨s0, s1, s2, s3⟩
                go_simp
                with_reducible rfl
              rotate_left
              · simp only [Act.put, List.setIfInBounds_toArray, List.set_cons_zero, List.set_cons_succ, i64_w, i32_w]
                rfl
              refine one_ (i := 6) (N := some 28) #[true, true, true, true, true, true, true, false, false, false, false, false] rfl rfl (one_of HT_.out (by kernel_rfl)) (by decide) (fun K hK => ?_)
              refine goes_ Try.func83 (by kernel_rfl) rfl #[.agg #[.slice (some ad107) l0_0.length c0_0], .agg #[.int .i64 ((rd_impl_Method l0_0 a1).f0), .int .i64 ((rd_impl_Method l0_0 a1).f1), .slice A107_2 ((rd_impl_Method l0_0 a1).f2).length c107_2]] (by rfl) rfl rfl (by (try simp only [List.map_toArray, List.map_cons, List.map_nil]); first | done | rfl | (simp only [List.length_drop, List.length_take]; rfl)) ?_
              with_reducible refine (spec_l2At.calls kj2 _ _ l0_0 ((rd_impl_Method l0_0 a1).f0) ((rd_impl_Method l0_0 a1).f1) _ _ ((rd_impl_Method l0_0 a1).f2) t108 false _ ?side1 ?side2 ?side3 ?side4 A18.out).mono ?_
              (case side1 => exact cb_)
              (case side2 => exact HC0_0.out)
              (case side3 => exact cb_)
              (case side4 => exact HC107_2.out)
              rintro e w23 ⟨v109, rfl, ho0, hb⟩
              refine ⟨_, rfl, ?_⟩
              have n0_ := Aside0.mk (Kd.R_lower ho0 (below_size (bw_)))
              have n1_ := Aside0.mk (blk_below (g := gb101) (o := .cells #[.slice (some ad107) l0_0.length c0_0] 46 (0, 0)) (by (with_reducible repeat (first | refine blk_drewN ?_ _ | refine blk_drew ?_ | refine blk_alloc ?_ _)); exact BK101.out) hb)
              have n2_ := Aside0.mk (below_step (bw_) hb)
              clear BK101
              clear HB
              have HO110 := n0_
              have BK101 := n1_
              have HB := n2_
              clear n0_ n1_ n2_
              (try clear hb)
              (try clear hb2)
              (try clear hk)
              (try clear hi)
              (try clear ho0)
              refine hK.out _ _ ⟨(blk_cell BK101.out 0).trans rfl, ((HB.out.cell (World.block_lt_of_cell? w _ hw107_0)).trans hw107_0), ((HB.out.cell (World.block_lt_of_cell? w _ hw107_1)).trans hw107_1), ((HB.out.cell (World.block_lt_of_cell? w _ hw107_2)).trans hw107_2)⟩ (fun hHeld => ?_)
              clear hK K
              refine norm_ (a' := ?_) ?_ ?_
              rotate_left
              · show Act.put _ (some 28) _ = _
                simp only [Act.put, List.setIfInBounds_toArray, List.set_cons_zero, List.set_cons_succ, i64_w, i32_w]
                rfl
              refine pure_ (i := 7) (N := some 21) (v := ?_) (a' := ?_) #[true, true, true, true, true, true, true, true, false, false, false, false] rfl rfl (any_of HT_.out (by kernel_rfl)) (fun _ _ _ h => h) (Or.inl ⟨by rfl, ?_⟩) ?_ ?_
              rotate_left
              · intro w'
                go_simp
                with_reducible rfl
              rotate_left
              · simp only [Act.put, List.setIfInBounds_toArray, List.set_cons_zero, List.set_cons_succ, i64_w, i32_w]
                rfl
              refine pure_ (i := 8) (N := some 29) (v := ?_) (a' := ?_) #[true, true, true, true, true, true, true, true, true, false, false, false] rfl rfl (any_of HT_.out (by kernel_rfl)) (fun _ _ _ h => h) (Or.inl ⟨by rfl, ?_⟩) ?_ ?_
              rotate_left
              · intro w'
                go_simp
                with_reducible rfl
              rotate_left
              · simp only [Act.put, List.setIfInBounds_toArray, List.set_cons_zero, List.set_cons_succ, i64_w, i32_w]
                rfl
              refine pure_ (i := 9) (N := some 30) (v := ?_) (a' := ?_) #[true, true, true, true, true, true, true, true, true, true, false, false] rfl rfl (any_of HT_.out (by kernel_rfl)) (fun _ _ _ h => h) (Or.inl ⟨by rfl, ?_⟩) ?_ ?_
              rotate_left
              · intro w'
                go_simp
                with_reducible rfl
              rotate_left
              · simp only [Act.put, List.setIfInBounds_toArray, List.set_cons_zero, List.set_cons_succ, i64_w, i32_w]
                rfl
              refine pure_ (i := 10) (N := some 6) (v := ?_) (a' := ?_) #[true, true, true, true, true, true, true, true, true, true, true, false] rfl rfl (any_of HT_.out (by kernel_rfl)) (fun _ _ _ h => h) (Or.inl ⟨by rfl, ?_⟩) ?_ ?_
              rotate_left
              · intro w'
                go_simp
                with_reducible rfl
              rotate_left
              · simp only [Act.put, List.setIfInBounds_toArray, List.set_cons_zero, List.set_cons_succ, i64_w, i32_w]
                rfl
              refine pure_ (i := 11) (N := some 7) (v := ?_) (a' := ?_) #[true, true, true, true, true, true, true, true, true, true, true, true] rfl rfl (any_of HT_.out (by kernel_rfl)) (fun _ _ _ h => h) (Or.inl ⟨by rfl, ?_⟩) ?_ ?_
              rotate_left
              · intro w'
                go_simp
                with_reducible rfl
              rotate_left
              · simp only [Act.put, List.setIfInBounds_toArray, List.set_cons_zero, List.set_cons_succ, i64_w, i32_w]
                rfl
              refine done_ (done_of HT_.out (by kernel_rfl)) ?_
              try go_wp2_with (first | ((with_reducible refine gate_dst (N := 33) rfl ?_); (try (refine gate_guard (by rfl) ?_; dsimp only)); refine Kd.R_lit (Kd.int .i64) _ 3 ?hg (N := 33) ?hd (xs := ([] : List Int)) (inner := []) (ok := fun _ => True) (okp := fun _ => True) ?hr ?hp (fun _ hk => hk) trivial (Below.refl _ _) (Nat.le_refl _) (by simp) ?_; (case hd => rfl); (case hg => rfl); (case hr => first | (go_simp; done) | (go_simp; rfl)); (case hp => exact (Reps.none _ _)); intro v113 w24 ho25 hb hg_ hnew_; clear hg_ hnew_; (first | rw [← Ny112.out] at ho25 | (simp only [Int.reduceToNat] at ho25; rw [← Ny112.out] at ho25)); have n0_ := Aside0.mk (Kd.R_elder' (by (with_reducible repeat (first | apply Kd.R_alloc | apply Kd.R_drewN | apply Kd.R_drew)); exact HO110.out) (Kd.R_base ho25) hb); have n1_ := Aside0.mk (Kd.R_lower (Kd.R_new' ho25 (Kd.R_lt (by (with_reducible repeat (first | apply Kd.R_alloc | apply Kd.R_drewN | apply Kd.R_drew)); exact HO110.out))) (below_size (bw_))); have n2_ := Aside0.mk (blk_below (g := gb101) (o := .cells #[.slice (some ad107) l0_0.length c0_0] 46 (0, 0)) (by (with_reducible repeat (first | refine blk_drewN ?_ _ | refine blk_drew ?_ | refine blk_alloc ?_ _)); exact BK101.out) hb); have n3_ := Aside0.mk (below_step (bw_) hb); clear HO110; clear BK101; clear HB; have HO110 := n0_; have HO114 := n1_; have BK101 := n2_; have HB := n3_; clear n0_ n1_ n2_ n3_; clear hb ho25))
              go_ret2
              exact ⟨_, by first | rfl | (simp [errW_none, errW_some] <;> rfl) | (simp [*, errW_none, errW_some] <;> rfl), by (with_reducible repeat (first | apply Kd.R_alloc | apply Kd.R_drewN | apply Kd.R_drew)); exact Kd.R_mono HO114.out (fun _ hk => trivial), bw_⟩
          · rw [if_neg c17] at H
            exact absurd H (by simp)
        · rw [if_neg c16] at H
          exact absurd H (by simp)
end Go.Proofs.Ytcllkemhlhbdgaa.G
namespace Go.Proofs.Ytcllkemhlhbdgaa.G
open Go.RowKit Go.Proofs.YtcllkemhlhbdgaaW.PrintWords Go.Proofs.YtcllkemhlhbdgaaW.PrintLast Go.Proofs.YtcllkemhlhbdgaaW.PrintMore
attribute [local go_sem] max2_int min2_int max_two min_two max_three min_three max_four min_four
set_option linter.unusedVariables false
set_option linter.unusedSimpArgs false
def spec_DeepMost.l0 : Nat → Int → List Int → Int → Int → List (S_impl_Method) → Option (Int)
  | 0, _, _, _, _, _ => none
  | k + 1, x1, x5, x7, x8, x102000 => if x8 < (x5.length : Int) then (if 0 ≤ x8 then (if (rd x5 x8) ≥ 0 then (if 0 ≤ x1 then (if x1 < (x102000.length : Int) then (if x8 < (((rd_impl_Method x102000 x1).f2).length : Int) then ((spec_l2Deep.f k x102000 ((rd_impl_Op ((rd_impl_Method x102000 x1).f2) x8).f0) ((rd_impl_Op ((rd_impl_Method x102000 x1).f2) x8).f1) (rd x5 x8)).bind fun t111 => (spec_DeepMost.l0 k x1 x5 (mx x7 (mx (rd x5 x8) t111)) (wrap64 (x8 + 1)) x102000)) else (none)) else (none)) else (none)) else (spec_DeepMost.l0 k x1 x5 x7 (wrap64 (x8 + 1)) x102000)) else (none)) else (some x7)
def spec_DeepMost.f (k : Nat) (l0_0 : List (S_impl_Method)) (a1 : Int) : Option (Int) := (spec_DeepAt.f k l0_0 a1).bind fun bt102 => (if bt102.2 = true then (spec_DeepMost.l0 k a1 bt102.1 0 0 l0_0) else (some (-1)))
theorem spec_DeepMost.mono_l : ∀ k, (∀ y0 y1 y2 y3 y4, LeO (spec_DeepMost.l0 k y0 y1 y2 y3 y4) (spec_DeepMost.l0 (k + 1) y0 y1 y2 y3 y4))
  | 0 => fun _ _ _ _ _ r h => by simp [spec_DeepMost.l0] at h
  | k + 1 => by
    have ih0 := spec_DeepMost.mono_l k
    · intro y0 y1 y2 y3 y4
      unfold spec_DeepMost.l0
      repeat' first
      | (with_reducible exact ih0 _ _ _ _ _)
      | (with_reducible exact spec_DeepAt.mono _ _ _)
      | (with_reducible exact spec_l2Deep.mono _ _ _ _ _)
      | (with_reducible exact LeO.refl _)
      | (with_reducible exact LeO.none _)
      | (with_reducible refine LeO.ite ?_ ?_)
      | (with_reducible refine LeO.bind ?_ (fun _ => ?_))
      | exact ih0 _ _ _ _ _
      | exact spec_DeepAt.mono _ _ _
      | exact spec_l2Deep.mono _ _ _ _ _
      | exact LeO.none _
      | refine LeO.ite ?_ ?_
      | refine LeO.bind ?_ (fun _ => ?_)
theorem spec_DeepMost.mono : ∀ a0 a1 k, LeO (spec_DeepMost.f k a0 a1) (spec_DeepMost.f (k + 1) a0 a1) := by
  intro a0 a1 k
  have ih0 := spec_DeepMost.mono_l k
  unfold spec_DeepMost.f
  repeat' first
      | (with_reducible exact ih0 _ _ _ _ _)
      | (with_reducible exact spec_DeepAt.mono _ _ _)
      | (with_reducible exact spec_l2Deep.mono _ _ _ _ _)
      | (with_reducible exact LeO.refl _)
      | (with_reducible exact LeO.none _)
      | (with_reducible refine LeO.ite ?_ ?_)
      | (with_reducible refine LeO.bind ?_ (fun _ => ?_))
      | exact ih0 _ _ _ _ _
      | exact spec_DeepAt.mono _ _ _
      | exact spec_l2Deep.mono _ _ _ _ _
      | exact LeO.none _
      | refine LeO.ite ?_ ?_
      | refine LeO.bind ?_ (fun _ => ?_)
def spec_DeepMost.T9 : Bool × List (List Nat × List Nat) := (true, [([], []), ([], []), ([], []), ([1, 2], [1, 2]), ([3], [3]), ([], []), ([], []), ([6], [6]), ([], []), ([7, 8], [7, 8]), ([9], [9]), ([10], [10]), ([], []), ([11, 12], [11, 12]), ([13], [13]), ([], []), ([], []), ([15, 16], [15, 16]), ([17], [17]), ([5, 14, 18], [5, 14, 18]), ([4, 19], [4, 19]), ([0, 20], [0, 20]), ([21, 19, 0, 1, 2, 3, 4, 5, 6, 7, 8, 9, 10, 11, 12, 13, 14, 15, 16, 17, 18, 19, 20, 21], [0, 21])])
def spec_DeepMost.B9 : List Nat := [0, 0, 0, 6, 14, 0, 0, 64, 0, 448, 960, 1984, 0, 8128, 16320, 0, 0, 98304, 229376, 524256, 1048574, 2097151, 4194303]
theorem spec_DeepMost.tab9 : rtab .any (opsOf Try.f37 9) = spec_DeepMost.T9 := by kernel_rfl
theorem spec_DeepMost.bits9 : waitsOk spec_DeepMost.T9.2 spec_DeepMost.B9 = true := by kernel_rfl
set_option maxHeartbeats 8000000 in
set_option maxRecDepth 100000 in
theorem spec_DeepMost.calls (k : Nat) (A0_0 : Option Addr) (c0_0 : Nat) (l0_0 : List (S_impl_Method)) (a1 : Int) (r : Int) (w : World) (hr0_0 : Kd.C k_impl_Method w A0_0 l0_0.length l0_0) (hc0_0 : l0_0.length ≤ c0_0) (h : spec_DeepMost.f k l0_0 a1 = some r) :
    Calls Try.prog 37 #[.agg #[.slice A0_0 l0_0.length c0_0], .int .i64 a1] w fun e w' => e = .returned (.int .i64 r) ∧ Below w.heap.size w w' := by
  have hu46 := Try.underlying46
  have hu48 := Try.underlying48
  have HR0_0 := Aside0.mk hr0_0
  have HC0_0 := Aside0.mk hc0_0
  clear hr0_0 hc0_0
  have HB := Aside0.mk (Below.refl w.heap.size w)
  have H : ((spec_DeepAt.f k l0_0 a1).bind fun bt102 => (if bt102.2 = true then (spec_DeepMost.l0 k a1 bt102.1 0 0 l0_0) else (some (-1)))) = some r := h
  clear h
  replace H := Option.bind_eq_some_iff.mp H
  obtain ⟨⟨t102, t105⟩, A30, H⟩ := H
  replace H : (if t105 = true then (spec_DeepMost.l0 k a1 t102 0 0 l0_0) else (some (-1))) = some r := H
  have A3 := Aside0.mk A30
  clear A30
  by_cases c4 : t105 = true
  · subst c4
    have H1 : (spec_DeepMost.l0 k a1 t102 0 0 l0_0) = some r := by rw [if_pos rfl] at H; exact H
    clear H
    have H := H1
    clear H1
    have H' := Aside0.mk H
    clear H
    go_enter Try.func37, Try.ntmps37
    go_wp2_with (first | ((with_reducible refine gate_dst (N := 2) rfl ?_); refine box_event ?hg (N := 2) ?hd (cs := #[.slice A0_0 l0_0.length c0_0]) (t := 46) ?hr ?_; (case hd => rfl); (case hg => rfl); (case hr => first | (go_simp; done) | (go_simp; rfl)); intro gb101 hg w5 hbox hb; have n0_ := Aside0.mk (below_step (bw_) hb); have n1_ := Aside0.mk (hbox); have n2_ := Aside0.mk ((by rw [hg]; exact (below_size (bw_)) : w.heap.size ≤ gb101)); have n3_ := Aside0.mk ((by rw [hg]; exact (below_size (bw_)) : w.heap.size ≤ gb101)); clear HB; have HB := n0_; have BK101 := n1_; have GW101 := n2_; have GE101 := n3_; clear n0_ n1_ n2_ n3_; clear hb hbox hg; obtain ⟨hcz6_0, hfz6_0⟩ := blkF1_ BK101.out) | ((with_reducible refine gate_callee (f := 41) rfl ?_); refine goesL_ (some 12) rfl rfl Try.func41 (by kernel_rfl) rfl #[.agg #[.slice A0_0 l0_0.length c0_0], .int .i64 a1] rfl (by (try simp only [List.map_toArray, List.map_cons, List.map_nil]); first | done | rfl | (simp only [List.length_drop, List.length_take]; rfl)) ?_; (with_reducible refine (spec_DeepAt.calls k _ _ l0_0 a1 t102 true _ ?side1 ?side2 A3.out).mono ?_); (case side1 => exact cb_); (case side2 => exact HC0_0.out); rintro e w7 ⟨v103, rfl, ho0, hb⟩; refine ⟨_, rfl, ?_⟩; have n0_ := Aside0.mk (Kd.R_lower ho0 (below_size (bw_))); have n1_ := Aside0.mk (blk_below (g := gb101) (o := .cells #[.slice A0_0 l0_0.length c0_0] 46 (0, 0)) (by (with_reducible repeat (first | refine blk_drewN ?_ _ | refine blk_drew ?_ | refine blk_alloc ?_ _)); exact BK101.out) hb); have n2_ := Aside0.mk (below_step (bw_) hb); clear BK101; clear HB; have HO104 := n0_; have BK101 := n1_; have HB := n2_; clear n0_ n1_ n2_; (try clear hb); (try clear hb2); (try clear hk); (try clear hi); (try clear ho0)))
    go_loopg [7, 8] k (fun kq v7 v8 w' => ∃ (x7_1 : Int) (x8_1 : Int), v7 = .int .i64 x7_1 ∧ v8 = .int .i64 x8_1 ∧ Aside0 (spec_DeepMost.l0 kq a1 t102 x7_1 x8_1 l0_0 = some r) ∧ Aside0 (kq ≤ k) ∧ Aside0 (Kd.R (Kd.int .i64) 3 w' w.heap.size (fun _ => True) v103 t102) ∧ Aside0 (w'.heap[gb101]? = some (.cells #[(.slice A0_0 l0_0.length c0_0)] 46 (0, 0))) ∧ Aside0 (Below w.heap.size w w'))
    case atStart => exact ⟨(0), (0), (by first | rfl | (simp; done) | (simp [*]; done)), (by first | rfl | (simp; done) | (simp [*]; done)), H', ⟨Nat.le_refl _⟩, ⟨by (with_reducible repeat (first | apply Kd.R_alloc | apply Kd.R_drewN | apply Kd.R_drew)); exact HO104.out⟩, ⟨by (with_reducible repeat (first | refine blk_drewN ?_ _ | refine blk_drew ?_ | refine blk_alloc ?_ _)); exact BK101.out⟩, ⟨bw_⟩⟩
    case round =>
      clear H'
      try clear p2
      try clear c3
      try clear c4
      try clear hcz6_0
      try clear hfz6_0
      obtain ⟨x7_1, x8_1, rfl, rfl, HA, HK1, HO_5, BK101, HB⟩ := hrel
      cases gk with
      | zero => exact absurd HA.out (by simp [spec_DeepMost.l0])
      | succ k1 =>
        have H := HA.out
        clear HA
        simp only [spec_DeepMost.l0] at H
        by_cases c8 : x8_1 < (t102.length : Int)
        · rw [if_pos c8] at H
          have c8b0 : decide (x8_1 < (t102.length : Int)) = true := decide_eq_true c8
          clear c8
          by_cases c9 : 0 ≤ x8_1
          · rw [if_pos c9] at H
            have c9b0 : decide (0 ≤ x8_1) = true := decide_eq_true c9
            clear c9
            by_cases c10 : (rd t102 x8_1) ≥ 0
            · rw [if_pos c10] at H
              have c10b0 : decide (0 ≤ (rd t102 x8_1)) = true := decide_eq_true c10
              clear c10
              by_cases c11 : 0 ≤ a1
              · rw [if_pos c11] at H
                have c11b0 : decide (0 ≤ a1) = true := decide_eq_true c11
                clear c11
                by_cases c12 : a1 < (l0_0.length : Int)
                · rw [if_pos c12] at H
                  have c12b0 : decide (a1 < (l0_0.length : Int)) = true := decide_eq_true c12
                  clear c12
                  by_cases c13 : x8_1 < (((rd_impl_Method l0_0 a1).f2).length : Int)
                  · rw [if_pos c13] at H
                    have c13b0 : decide (x8_1 < (((rd_impl_Method l0_0 a1).f2).length : Int)) = true := decide_eq_true c13
                    clear c13
                    replace H := Option.bind_eq_some_iff.mp H
                    obtain ⟨t111, A140, H⟩ := H
                    replace H : (spec_DeepMost.l0 k1 a1 t102 (mx x7_1 (mx (rd t102 x8_1) t111)) (wrap64 (x8_1 + 1)) l0_0) = some r := H
                    have A14 := Aside0.mk A140
                    clear A140
                    obtain ⟨ji15, hji15⟩ : ∃ j_ : Int, (mx (rd t102 x8_1) t111) = j_ := ⟨_, rfl⟩
                    replace H : (spec_DeepMost.l0 k1 a1 t102 (mx x7_1 (ji15)) (wrap64 (x8_1 + 1)) l0_0) = some r := by first | (rw [hji15] at H; exact H) | (simp only [hji15] at H ⊢; exact H)
                    (try rw [hji15] at A14)
                    have hji15_ : (if (rd t102 x8_1) < t111 then t111 else (rd t102 x8_1)) = ji15 := hji15
                    obtain ⟨ji16, hji16⟩ : ∃ j_ : Int, (mx x7_1 (ji15)) = j_ := ⟨_, rfl⟩
                    replace H : (spec_DeepMost.l0 k1 a1 t102 ji16 (wrap64 (x8_1 + 1)) l0_0) = some r := by first | (rw [hji16] at H; exact H) | (simp only [hji16] at H ⊢; exact H)
                    (try rw [hji16] at A14)
                    have hji16_ : (if x7_1 < (ji15) then (ji15) else x7_1) = ji16 := hji16
                    have H' := Aside0.mk H
                    clear H
                    obtain ⟨Ao17, co17, eo17⟩ := Kd.R_slice HO_5.out
                    subst eo17
                    have p106 : 0 ≤ (x8_1 : Int) := of_decide_eq_true (by first | (with_reducible assumption) | assumption)
                    have q106 : x8_1 < (t102.length : Int) := of_decide_eq_true (by first | (with_reducible assumption) | assumption)
                    obtain ⟨ad106, e106, hx106_0⟩ := Kd.at_int (Kd.R_reads' HO_5.out).2.2 x8_1 p106 q106
                    cases e106
                    replace p106 := eq_true p106
                    replace q106 := eq_true q106
                    try go_wp2
                    have n0_ := Aside0.mk (Kd.R_drew HO_5.out)
                    have n1_ := Aside0.mk (blk_drew BK101.out)
                    have n2_ := Aside0.mk (below_drew1 HB.out)
                    clear HO_5
                    clear BK101
                    clear HB
                    have HO_5 := n0_
                    have BK101 := n1_
                    have HB := n2_
                    clear n0_ n1_ n2_
                    have p107 : 0 ≤ (x8_1 : Int) := of_decide_eq_true (by first | (with_reducible assumption) | assumption)
                    have q107 : x8_1 < (t102.length : Int) := of_decide_eq_true (by first | (with_reducible assumption) | assumption)
                    obtain ⟨ad107, e107, hx107_0⟩ := Kd.at_int (Kd.R_reads' HO_5.out).2.2 x8_1 p107 q107
                    obtain rfl : ad106 = ad107 := (by injection e107)
                    replace p107 := eq_true p107
                    replace q107 := eq_true q107
                    have p108 : 0 ≤ (a1 : Int) := of_decide_eq_true (by first | (with_reducible assumption) | assumption)
                    have q108 : a1 < (l0_0.length : Int) := of_decide_eq_true (by first | (with_reducible assumption) | assumption)
                    obtain ⟨ad108, A108_2, c108_2, e108, hx108_0, hx108_1, hx108_2, hl108_2, hi108_2⟩ := at_impl_Method HR0_0.out a1 p108 q108
                    have hw108_2 := hx108_2
                    have hw108_1 := hx108_1
                    have hw108_0 := hx108_0
                    cases e108
                    replace hx108_0 := (HB.out.cell (World.block_lt_of_cell? w _ hx108_0)).trans hx108_0
                    replace hx108_1 := (HB.out.cell (World.block_lt_of_cell? w _ hx108_1)).trans hx108_1
                    replace hx108_2 := (HB.out.cell (World.block_lt_of_cell? w _ hx108_2)).trans hx108_2
                    have HR108_2 := Aside0.mk hi108_2
                    have HC108_2 := Aside0.mk hl108_2
                    clear hi108_2 hl108_2
                    replace p108 := eq_true p108
                    replace q108 := eq_true q108
                    have p109 : 0 ≤ (x8_1 : Int) := of_decide_eq_true (by first | (with_reducible assumption) | assumption)
                    have q109 : x8_1 < (((rd_impl_Method l0_0 a1).f2).length : Int) := of_decide_eq_true (by first | (with_reducible assumption) | assumption)
                    obtain ⟨ad109, e109, hx109_0, hx109_1⟩ := at_impl_Op HR108_2.out x8_1 p109 q109
                    have hw109_1 := hx109_1
                    have hw109_0 := hx109_0
                    cases e109
                    replace hx109_0 := (HB.out.cell (World.block_lt_of_cell? w _ hx109_0)).trans hx109_0
                    replace hx109_1 := (HB.out.cell (World.block_lt_of_cell? w _ hx109_1)).trans hx109_1
                    replace p109 := eq_true p109
                    replace q109 := eq_true q109
                    have p110 : 0 ≤ (x8_1 : Int) := of_decide_eq_true (by first | (with_reducible assumption) | assumption)
                    have q110 : x8_1 < (t102.length : Int) := of_decide_eq_true (by first | (with_reducible assumption) | assumption)
                    obtain ⟨ad110, e110, hx110_0⟩ := Kd.at_int (Kd.R_reads' HO_5.out).2.2 x8_1 p110 q110
                    obtain rfl : ad106 = ad110 := (by injection e110)
                    replace p110 := eq_true p110
                    replace q110 := eq_true q110
                    refine start_ (n := 23) (S := fun w' => w'.cell? ⟨gb101, 0, none⟩ = some (.slice (some ad108) l0_0.length c0_0) ∧ w'.cell? (ad106.add (x8_1).toNat) = some (.int .i64 (rd t102 x8_1)) ∧ w'.cell? (ad108.add ((a1).toNat * 3)) = some (.int .i64 ((rd_impl_Method l0_0 a1).f0)) ∧ w'.cell? ⟨(ad108.add ((a1).toNat * 3)).block, (ad108.add ((a1).toNat * 3)).off + 1, none⟩ = some (.int .i64 ((rd_impl_Method l0_0 a1).f1)) ∧ w'.cell? ⟨(ad108.add ((a1).toNat * 3)).block, (ad108.add ((a1).toNat * 3)).off + 2, none⟩ = some (.slice (some ad109) ((rd_impl_Method l0_0 a1).f2).length c108_2) ∧ w'.cell? (ad109.add ((x8_1).toNat * 2)) = some (.int .i64 ((rd_impl_Op ((rd_impl_Method l0_0 a1).f2) x8_1).f0)) ∧ w'.cell? ⟨(ad109.add ((x8_1).toNat * 2)).block, (ad109.add ((x8_1).toNat * 2)).off + 1, none⟩ = some (.int .i64 ((rd_impl_Op ((rd_impl_Method l0_0 a1).f2) x8_1).f1)) ∧ w'.cell? (ad106.add (x8_1).toNat) = some (.int .i64 (rd t102 x8_1))) (ds := []) #[false, false, false, false, false, false, false, false, false, false, false, false, false, false, false, false, false, false, false, false, false, false, false] (by kernel_rfl) rfl rfl ⟨(blk_cell BK101.out 0).trans rfl, hx107_0, ((HB.out.cell (World.block_lt_of_cell? w _ hw108_0)).trans hw108_0), ((HB.out.cell (World.block_lt_of_cell? w _ hw108_1)).trans hw108_1), ((HB.out.cell (World.block_lt_of_cell? w _ hw108_2)).trans hw108_2), ((HB.out.cell (World.block_lt_of_cell? w _ hw109_0)).trans hw109_0), ((HB.out.cell (World.block_lt_of_cell? w _ hw109_1)).trans hw109_1), hx110_0⟩ (fun hHeld => ?_); refine with_tabW spec_DeepMost.tab9 spec_DeepMost.bits9 (fun HT_ HW_ => ?_)
                    generalize wr.drew = w18 at HO_5 BK101 HB HR108_2 hx107_0 hx108_0 hx108_1 hx108_2 hx109_0 hx109_1 hx110_0 hHeld ⊢
                    refine pure_ (i := 0) (N := some 28) (v := ?_) (a' := ?_) #[true, false, false, false, false, false, false, false, false, false, false, false, false, false, false, false, false, false, false, false, false, false, false] rfl rfl (any_of HT_.out (by kernel_rfl)) (fun _ _ _ h => h) (Or.inl ⟨by rfl, ?_⟩) ?_ ?_
                    rotate_left
                    · intro w'
                      go_simp
                      with_reducible rfl
                    rotate_left
                    · simp only [Act.put, List.setIfInBounds_toArray, List.set_cons_zero, List.set_cons_succ, i64_w, i32_w]
                      rfl
                    refine pure_ (i := 1) (N := some 29) (v := ?_) (a' := ?_) #[true, true, false, false, false, false, false, false, false, false, false, false, false, false, false, false, false, false, false, false, false, false, false] rfl rfl (any_of HT_.out (by kernel_rfl)) (fun _ _ _ h => h) (Or.inl ⟨by rfl, ?_⟩) ?_ ?_
                    rotate_left
                    · intro w'
                      go_simp
                      with_reducible rfl
                    rotate_left
                    · simp only [Act.put, List.setIfInBounds_toArray, List.set_cons_zero, List.set_cons_succ, i64_w, i32_w]
                      rfl
                    refine pure_ (i := 2) (N := some 30) (v := ?_) (a' := ?_) #[true, true, true, false, false, false, false, false, false, false, false, false, false, false, false, false, false, false, false, false, false, false, false] rfl rfl (any_of HT_.out (by kernel_rfl)) (fun _ _ _ h => h) (Or.inl ⟨by rfl, ?_⟩) ?_ ?_
                    rotate_left
                    · intro w'
                      go_simp
                      with_reducible rfl
                    rotate_left
                    · simp only [Act.put, List.setIfInBounds_toArray, List.set_cons_zero, List.set_cons_succ, i64_w, i32_w]
                      rfl
                    refine pure_ (i := 3) (N := some 31) (v := ?_) (a' := ?_) #[true, true, true, true, false, false, false, false, false, false, false, false, false, false, false, false, false, false, false, false, false, false, false] rfl rfl (any_of HT_.out (by kernel_rfl)) (fun _ _ _ h => h) (Or.inl ⟨by rfl, ?_⟩) ?_ ?_
                    rotate_left
                    · intro w'
                      go_simp
                      with_reducible rfl
                    rotate_left
                    · simp only [Act.put, List.setIfInBounds_toArray, List.set_cons_zero, List.set_cons_succ, i64_w, i32_w]
                      rfl
                    refine pure_ (i := 6) (N := some 34) (v := ?_) (a' := ?_) #[true, true, true, true, false, false, true, false, false, false, false, false, false, false, false, false, false, false, false, false, false, false, false] rfl rfl (any_of HT_.out (by kernel_rfl)) (fun _ _ _ h => h) (Or.inl ⟨by rfl, ?_⟩) ?_ ?_
                    rotate_left
                    · intro w'
                      go_simp
                      with_reducible rfl
                    rotate_left
                    · simp only [Act.put, List.setIfInBounds_toArray, List.set_cons_zero, List.set_cons_succ, i64_w, i32_w]
                      rfl
                    refine pure_ (i := 8) (N := some 36) (v := ?_) (a' := ?_) #[true, true, true, true, false, false, true, false, true, false, false, false, false, false, false, false, false, false, false, false, false, false, false] rfl rfl (any_of HT_.out (by kernel_rfl)) (fun _ _ _ h => h) (Or.inl ⟨by rfl, ?_⟩) ?_ ?_
                    rotate_left
                    · intro w'
                      go_simp
                      with_reducible rfl
                    rotate_left
                    · simp only [Act.put, List.setIfInBounds_toArray, List.set_cons_zero, List.set_cons_succ, i64_w, i32_w]
                      rfl
                    refine pure_ (i := 12) (N := some 40) (v := ?_) (a' := ?_) #[true, true, true, true, false, false, true, false, true, false, false, false, true, false, false, false, false, false, false, false, false, false, false] rfl rfl (any_of HT_.out (by kernel_rfl)) (fun _ _ _ h => h) (Or.inl ⟨by rfl, ?_⟩) ?_ ?_
                    rotate_left
                    · intro w'
                      go_simp
                      with_reducible rfl
                    rotate_left
                    · simp only [Act.put, List.setIfInBounds_toArray, List.set_cons_zero, List.set_cons_succ, i64_w, i32_w]
                      rfl
                    refine pure_ (i := 15) (N := some 43) (v := ?_) (a' := ?_) #[true, true, true, true, false, false, true, false, true, false, false, false, true, false, false, true, false, false, false, false, false, false, false] rfl rfl (any_of HT_.out (by kernel_rfl)) (fun _ _ _ h => h) (Or.inl ⟨by rfl, ?_⟩) ?_ ?_
                    rotate_left
                    · intro w'
                      go_simp
                      with_reducible rfl
                    rotate_left
                    · simp only [Act.put, List.setIfInBounds_toArray, List.set_cons_zero, List.set_cons_succ, i64_w, i32_w]
                      rfl
                    refine pure_ (i := 16) (N := some 44) (v := ?_) (a' := ?_) #[true, true, true, true, false, false, true, false, true, false, false, false, true, false, false, true, true, false, false, false, false, false, false] rfl rfl (any_of HT_.out (by kernel_rfl)) (fun _ _ _ h => h) (Or.inl ⟨by rfl, ?_⟩) ?_ ?_
                    rotate_left
                    · intro w'
                      go_simp
                      with_reducible rfl
                    rotate_left
                    · simp only [Act.put, List.setIfInBounds_toArray, List.set_cons_zero, List.set_cons_succ, i64_w, i32_w]
                      rfl
                    refine pure_ (i := 17) (N := some 45) (v := ?_) (a' := ?_) #[true, true, true, true, false, false, true, false, true, false, false, false, true, false, false, true, true, true, false, false, false, false, false] rfl rfl (any_of HT_.out (by kernel_rfl)) (fun _ _ _ h => h) (Or.inl ⟨by rfl, ?_⟩) ?_ ?_
                    rotate_left
                    · intro w'
                      go_simp
                      with_reducible rfl
                    rotate_left
                    · simp only [Act.put, List.setIfInBounds_toArray, List.set_cons_zero, List.set_cons_succ, i64_w, i32_w]
                      rfl
                    refine take_ (i := 4) (N := some 32) (v := ?_) (a' := ?_) #[true, true, true, true, true, false, true, false, true, false, false, false, true, false, false, true, true, true, false, false, false, false, false] rfl rfl (take_ofW HT_.out HW_.out (by kernel_rfl)) (fun _ _ _ h => h) (Or.inl ⟨by rfl, ?_⟩) hHeld ?_ ?_
                    rotate_left
                    · rintro w' ⟨s0, s1, s2, s3, s4, s5, s6, s7⟩
                      go_simp
                      with_reducible rfl
                    rotate_left
                    · simp only [Act.put, List.setIfInBounds_toArray, List.set_cons_zero, List.set_cons_succ, i64_w, i32_w]
                      rfl
                    refine take_ (i := 5) (N := some 33) (v := ?_) (a' := ?_) #[true, true, true, true, true, true, true, false, true, false, false, false, true, false, false, true, true, true, false, false, false, false, false] rfl rfl (take_ofW HT_.out HW_.out (by kernel_rfl)) (fun _ _ _ h => h) (Or.inl ⟨by rfl, ?_⟩) hHeld ?_ ?_
                    rotate_left
                    · rintro w' ⟨s0, s1, s2, s3, s4, s5, s6, s7⟩
                      go_simp
                      with_reducible rfl
                    rotate_left
                    · simp only [Act.put, List.setIfInBounds_toArray, List.set_cons_zero, List.set_cons_succ, i64_w, i32_w]
                      rfl
                    refine take_ (i := 7) (N := some 35) (v := ?_) (a' := ?_) #[true, true, true, true, true, true, true, true, true, false, false, false, true, false, false, true, true, true, false, false, false, false, false] rfl rfl (take_ofW HT_.out HW_.out (by kernel_rfl)) (fun _ _ _ h => h) (Or.inl ⟨by rfl, ?_⟩) hHeld ?_ ?_
                    rotate_left
                    · rintro w' ⟨s0, s1, s2, s3, s4, s5, s6, s7⟩
                      go_simp
                      with_reducible rfl
                    rotate_left
                    · simp only [Act.put, List.setIfInBounds_toArray, List.set_cons_zero, List.set_cons_succ, i64_w, i32_w]
                      rfl
                    refine pure_ (i := 9) (N := some 37) (v := ?_) (a' := ?_) #[true, true, true, true, true, true, true, true, true, true, false, false, true, false, false, true, true, true, false, false, false, false, false] rfl rfl (any_of HT_.out (by kernel_rfl)) (fun _ _ _ h => h) (Or.inl ⟨by rfl, ?_⟩) ?_ ?_
                    rotate_left
                    · intro w'
                      go_simp
                      with_reducible rfl
                    rotate_left
                    · simp only [Act.put, List.setIfInBounds_toArray, List.set_cons_zero, List.set_cons_succ, i64_w, i32_w]
                      rfl
                    refine pure_ (i := 10) (N := some 38) (v := ?_) (a' := ?_) #[true, true, true, true, true, true, true, true, true, true, true, false, true, false, false, true, true, true, false, false, false, false, false] rfl rfl (any_of HT_.out (by kernel_rfl)) (fun _ _ _ h => h) (Or.inl ⟨by rfl, ?_⟩) ?_ ?_
                    rotate_left
                    · intro w'
                      go_simp
                      with_reducible rfl
                    rotate_left
                    · simp only [Act.put, List.setIfInBounds_toArray, List.set_cons_zero, List.set_cons_succ, i64_w, i32_w]
                      rfl
                    refine take_ (i := 11) (N := some 39) (v := ?_) (a' := ?_) #[true, true, true, true, true, true, true, true, true, true, true, true, true, false, false, true, true, true, false, false, false, false, false] rfl rfl (take_ofW HT_.out HW_.out (by kernel_rfl)) (fun _ _ _ h => h) (Or.inl ⟨by rfl, ?_⟩) hHeld ?_ ?_
                    rotate_left
                    · rintro w' ⟨s0, s1, s2, s3, s4, s5, s6, s7⟩
                      go_simp
                      with_reducible rfl
                    rotate_left
                    · simp only [Act.put, List.setIfInBounds_toArray, List.set_cons_zero, List.set_cons_succ, i64_w, i32_w]
                      rfl
                    refine pure_ (i := 13) (N := some 41) (v := ?_) (a' := ?_) #[true, true, true, true, true, true, true, true, true, true, true, true, true, true, false, true, true, true, false, false, false, false, false] rfl rfl (any_of HT_.out (by kernel_rfl)) (fun _ _ _ h => h) (Or.inl ⟨by rfl, ?_⟩) ?_ ?_
                    rotate_left
                    · intro w'
                      go_simp
                      with_reducible rfl
                    rotate_left
                    · simp only [Act.put, List.setIfInBounds_toArray, List.set_cons_zero, List.set_cons_succ, i64_w, i32_w]
                      rfl
                    refine take_ (i := 14) (N := some 42) (v := ?_) (a' := ?_) #[true, true, true, true, true, true, true, true, true, true, true, true, true, true, true, true, true, true, false, false, false, false, false] rfl rfl (take_ofW HT_.out HW_.out (by kernel_rfl)) (fun _ _ _ h => h) (Or.inl ⟨by rfl, ?_⟩) hHeld ?_ ?_
                    rotate_left
                    · rintro w' ⟨s0, s1, s2, s3, s4, s5, s6, s7⟩
                      go_simp
                      with_reducible rfl
                    rotate_left
                    · simp only [Act.put, List.setIfInBounds_toArray, List.set_cons_zero, List.set_cons_succ, i64_w, i32_w]
                      rfl
                    refine take_ (i := 18) (N := some 46) (v := ?_) (a' := ?_) #[true, true, true, true, true, true, true, true, true, true, true, true, true, true, true, true, true, true, true, false, false, false, false] rfl rfl (take_ofW HT_.out HW_.out (by kernel_rfl)) (fun _ _ _ h => h) (Or.inl ⟨by rfl, ?_⟩) hHeld ?_ ?_
                    rotate_left
                    · rintro w' ⟨s0, s1, s2, s3, s4, s5, s6, s7⟩
                      go_simp
                      with_reducible rfl
                    rotate_left
                    · simp only [Act.put, List.setIfInBounds_toArray, List.set_cons_zero, List.set_cons_succ, i64_w, i32_w]
                      rfl
                    refine one_ (i := 19) (N := some 47) #[true, true, true, true, true, true, true, true, true, true, true, true, true, true, true, true, true, true, true, true, false, false, false] rfl rfl (one_of HT_.out (by kernel_rfl)) (by decide) (fun K hK => ?_)
                    refine goes_ Try.func81 (by kernel_rfl) rfl #[.agg #[.slice (some ad108) l0_0.length c0_0], .agg #[.int .i64 ((rd_impl_Op ((rd_impl_Method l0_0 a1).f2) x8_1).f0), .int .i64 ((rd_impl_Op ((rd_impl_Method l0_0 a1).f2) x8_1).f1)], .int .i64 (rd t102 x8_1)] (by rfl) rfl rfl (by (try simp only [List.map_toArray, List.map_cons, List.map_nil]); first | done | rfl | (simp only [List.length_drop, List.length_take]; rfl)) ?_
                    with_reducible refine (spec_l2Deep.calls k1 _ _ l0_0 ((rd_impl_Op ((rd_impl_Method l0_0 a1).f2) x8_1).f0) ((rd_impl_Op ((rd_impl_Method l0_0 a1).f2) x8_1).f1) (rd t102 x8_1) t111 _ ?side1 ?side2 A14.out).mono ?_
                    (case side1 => exact cb_)
                    (case side2 => exact HC0_0.out)
                    rintro e w19 ⟨rfl, hb⟩
                    have HS1_ := (hb.cell (World.block_lt_of_cell? _ _ (hHeld.2.1))).trans (hHeld.2.1)
                    have HS7_ := (hb.cell (World.block_lt_of_cell? _ _ (hHeld.2.2.2.2.2.2.2))).trans (hHeld.2.2.2.2.2.2.2)
                    refine ⟨_, rfl, ?_⟩
                    have n0_ := Aside0.mk (Kd.R_below (by (with_reducible repeat (first | apply Kd.R_alloc | apply Kd.R_drewN | apply Kd.R_drew)); exact HO_5.out) hb)
                    have n1_ := Aside0.mk (blk_below (g := gb101) (o := .cells #[.slice (some ad108) l0_0.length c0_0] 46 (0, 0)) (by (with_reducible repeat (first | refine blk_drewN ?_ _ | refine blk_drew ?_ | refine blk_alloc ?_ _)); exact BK101.out) hb)
                    have n2_ := Aside0.mk (below_step (bw_) hb)
                    clear HO_5
                    clear BK101
                    clear HB
                    have HO_5 := n0_
                    have BK101 := n1_
                    have HB := n2_
                    clear n0_ n1_ n2_
                    (try clear hb)
                    (try clear hb2)
                    (try clear hk)
                    (try clear hi)
                    refine hK.out _ _ ⟨(blk_cell BK101.out 0).trans rfl, HS1_, ((HB.out.cell (World.block_lt_of_cell? w _ hw108_0)).trans hw108_0), ((HB.out.cell (World.block_lt_of_cell? w _ hw108_1)).trans hw108_1), ((HB.out.cell (World.block_lt_of_cell? w _ hw108_2)).trans hw108_2), ((HB.out.cell (World.block_lt_of_cell? w _ hw109_0)).trans hw109_0), ((HB.out.cell (World.block_lt_of_cell? w _ hw109_1)).trans hw109_1), HS7_⟩ (fun hHeld => ?_)
                    clear hK K
                    refine norm_ (a' := ?_) ?_ ?_
                    rotate_left
                    · show Act.put _ (some 47) _ = _
                      simp only [Act.put, List.setIfInBounds_toArray, List.set_cons_zero, List.set_cons_succ, i64_w, i32_w]
                      rfl
                    refine pure_ (i := 20) (N := some 48) (v := ?_) (a' := ?_) #[true, true, true, true, true, true, true, true, true, true, true, true, true, true, true, true, true, true, true, true, true, false, false] rfl rfl (any_of HT_.out (by kernel_rfl)) (fun _ _ _ h => h) (Or.inl ⟨by rfl, ?_⟩) ?_ ?_
                    rotate_left
                    · intro w'
                      go_simp
                      with_reducible rfl
                    rotate_left
                    · simp only [Act.put, List.setIfInBounds_toArray, List.set_cons_zero, List.set_cons_succ, i64_w, i32_w]
                      rfl
                    refine pure_ (i := 21) (N := some 49) (v := ?_) (a' := ?_) #[true, true, true, true, true, true, true, true, true, true, true, true, true, true, true, true, true, true, true, true, true, true, false] rfl rfl (any_of HT_.out (by kernel_rfl)) (fun _ _ _ h => h) (Or.inl ⟨by rfl, ?_⟩) ?_ ?_
                    rotate_left
                    · intro w'
                      go_simp
                      with_reducible rfl
                    rotate_left
                    · simp only [Act.put, List.setIfInBounds_toArray, List.set_cons_zero, List.set_cons_succ, i64_w, i32_w]
                      rfl
                    refine pure_ (i := 22) (N := some 7) (v := ?_) (a' := ?_) #[true, true, true, true, true, true, true, true, true, true, true, true, true, true, true, true, true, true, true, true, true, true, true] rfl rfl (any_of HT_.out (by kernel_rfl)) (fun _ _ _ h => h) (Or.inl ⟨by rfl, ?_⟩) ?_ ?_
                    rotate_left
                    · intro w'
                      go_simp
                      with_reducible rfl
                    rotate_left
                    · simp only [Act.put, List.setIfInBounds_toArray, List.set_cons_zero, List.set_cons_succ, i64_w, i32_w]
                      rfl
                    refine done_ (done_of HT_.out (by kernel_rfl)) ?_
                    try go_wp2
                    go_roundg k1
                    case measure => have := HK1.out; omega
                    case rel => exact ⟨(ji16), (wrap64 (x8_1 + 1)), (by first | rfl | (simp; done) | (simp only [← hji16] <;> (first | rfl | simp)) | (simp [*]; done)), (by first | rfl | (simp; done) | (simp [*]; done)), H', ⟨by have := HK1.out; omega⟩, ⟨by (with_reducible repeat (first | apply Kd.R_alloc | apply Kd.R_drewN | apply Kd.R_drew)); exact HO_5.out⟩, ⟨by (with_reducible repeat (first | refine blk_drewN ?_ _ | refine blk_drew ?_ | refine blk_alloc ?_ _)); exact BK101.out⟩, ⟨bw_⟩⟩
                  · rw [if_neg c13] at H
                    exact absurd H (by simp)
                · rw [if_neg c12] at H
                  exact absurd H (by simp)
              · rw [if_neg c11] at H
                exact absurd H (by simp)
            · rw [if_neg c10] at H
              have c10b0 : decide (0 ≤ (rd t102 x8_1)) = false := decide_eq_false c10
              clear c10
              have H' := Aside0.mk H
              clear H
              obtain ⟨Ao20, co20, eo20⟩ := Kd.R_slice HO_5.out
              subst eo20
              have p106 : 0 ≤ (x8_1 : Int) := of_decide_eq_true (by first | (with_reducible assumption) | assumption)
              have q106 : x8_1 < (t102.length : Int) := of_decide_eq_true (by first | (with_reducible assumption) | assumption)
              obtain ⟨ad106, e106, hx106_0⟩ := Kd.at_int (Kd.R_reads' HO_5.out).2.2 x8_1 p106 q106
              cases e106
              replace p106 := eq_true p106
              replace q106 := eq_true q106
              go_wp2
              go_roundg k1
              case measure => have := HK1.out; omega
              case rel => exact ⟨(x7_1), (wrap64 (x8_1 + 1)), (by first | rfl | (simp; done) | (simp [*]; done)), (by first | rfl | (simp; done) | (simp [*]; done)), H', ⟨by have := HK1.out; omega⟩, ⟨by (with_reducible repeat (first | apply Kd.R_alloc | apply Kd.R_drewN | apply Kd.R_drew)); exact HO_5.out⟩, ⟨by (with_reducible repeat (first | refine blk_drewN ?_ _ | refine blk_drew ?_ | refine blk_alloc ?_ _)); exact BK101.out⟩, ⟨bw_⟩⟩
          · rw [if_neg c9] at H
            exact absurd H (by simp)
        · rw [if_neg c8] at H
          have c8b0 : decide (x8_1 < (t102.length : Int)) = false := decide_eq_false c8
          clear c8
          obtain rfl := Option.some.inj H
          obtain ⟨Ao21, co21, eo21⟩ := Kd.R_slice HO_5.out
          subst eo21
          go_wp2
          go_ret
          exact ⟨by first | rfl | (simp [errW_none, errW_some] <;> rfl) | (simp [*, errW_none, errW_some] <;> rfl), bw_⟩
  · replace c4 := Bool.eq_false_iff.mpr c4
    subst c4
    have H1 : (some (-1)) = some r := by rw [if_neg (show ¬ (false = true) by decide)] at H; exact H
    clear H
    have H := H1
    clear H1
    obtain rfl := Option.some.inj H
    go_enter Try.func37, Try.ntmps37
    go_wp2_with (first | ((with_reducible refine gate_dst (N := 2) rfl ?_); refine box_event ?hg (N := 2) ?hd (cs := #[.slice A0_0 l0_0.length c0_0]) (t := 46) ?hr ?_; (case hd => rfl); (case hg => rfl); (case hr => first | (go_simp; done) | (go_simp; rfl)); intro gb101 hg w22 hbox hb; have n0_ := Aside0.mk (below_step (bw_) hb); have n1_ := Aside0.mk (hbox); have n2_ := Aside0.mk ((by rw [hg]; exact (below_size (bw_)) : w.heap.size ≤ gb101)); have n3_ := Aside0.mk ((by rw [hg]; exact (below_size (bw_)) : w.heap.size ≤ gb101)); clear HB; have HB := n0_; have BK101 := n1_; have GW101 := n2_; have GE101 := n3_; clear n0_ n1_ n2_ n3_; clear hb hbox hg; obtain ⟨hcz23_0, hfz23_0⟩ := blkF1_ BK101.out) | ((with_reducible refine gate_callee (f := 41) rfl ?_); refine goesL_ (some 12) rfl rfl Try.func41 (by kernel_rfl) rfl #[.agg #[.slice A0_0 l0_0.length c0_0], .int .i64 a1] rfl (by (try simp only [List.map_toArray, List.map_cons, List.map_nil]); first | done | rfl | (simp only [List.length_drop, List.length_take]; rfl)) ?_; (with_reducible refine (spec_DeepAt.calls k _ _ l0_0 a1 t102 false _ ?side1 ?side2 A3.out).mono ?_); (case side1 => exact cb_); (case side2 => exact HC0_0.out); rintro e w24 ⟨v103, rfl, ho0, hb⟩; refine ⟨_, rfl, ?_⟩; have n0_ := Aside0.mk (Kd.R_lower ho0 (below_size (bw_))); have n1_ := Aside0.mk (blk_below (g := gb101) (o := .cells #[.slice A0_0 l0_0.length c0_0] 46 (0, 0)) (by (with_reducible repeat (first | refine blk_drewN ?_ _ | refine blk_drew ?_ | refine blk_alloc ?_ _)); exact BK101.out) hb); have n2_ := Aside0.mk (below_step (bw_) hb); clear BK101; clear HB; have HO104 := n0_; have BK101 := n1_; have HB := n2_; clear n0_ n1_ n2_; (try clear hb); (try clear hb2); (try clear hk); (try clear hi); (try clear ho0)))
    go_ret
    exact ⟨by first | rfl | (simp [errW_none, errW_some] <;> rfl) | (simp [*, errW_none, errW_some] <;> rfl), bw_⟩
end Go.Proofs.Ytcllkemhlhbdgaa.G
namespace Go.Proofs.Ytcllkemhlhbdgaa.G
set_option linter.unusedSimpArgs false
open Go.RowKit Go.Proofs.YtcllkemhlhbdgaaW.PrintWords Go.Proofs.YtcllkemhlhbdgaaW.PrintLast Go.Proofs.YtcllkemhlhbdgaaW.PrintMore
theorem rd_set {l : List Int} {k i v : Int} (hk : 0 ≤ k) (hkl : k < (l.length : Int)) (hi : 0 ≤ i) : rd (l.set k.toNat v) i = if i = k then v else rd l i := by
  unfold rd
  obtain ⟨k, rfl⟩ := Int.eq_ofNat_of_zero_le hk
  obtain ⟨i, rfl⟩ := Int.eq_ofNat_of_zero_le hi
  simp only [Int.toNat_natCast, List.getD_eq_getElem?_getD]
  by_cases e : i = k
  · subst e
    rw [List.getElem?_set_self (by omega), if_pos rfl]
    rfl
  · rw [List.getElem?_set_ne (by omega), if_neg (by omega)]
theorem progOk_facts {l : List S_impl_Method} (h : progOkB l = true) : 1 ≤ l.length ∧ l.length ≤ 4 ∧ (rd_impl_Method l 0).f0 = 0 ∧ ∀ m ∈ l, (0 ≤ m.f0 ∧ m.f0 ≤ 2 ∧ m.f0 ≤ m.f1 ∧ m.f1 ≤ 4 ∧ m.f2.length ≤ 14) ∧ ∀ op ∈ m.f2, opOkB l.length m.f1 m.f2.length op.f0 op.f1 = true := by
  unfold progOkB at h
  split at h
  · rename_i c
    refine ⟨c.1, c.2.1, c.2.2, fun m hm => ?_⟩
    have hb : methodBadB l.length m = false := by
      cases hx : methodBadB l.length m with
      | false => rfl
      | true => rw [List.any_eq_true.mpr ⟨m, hm, hx⟩] at h; exact absurd h (by simp)
    unfold methodBadB at hb
    split at hb
    · rename_i d
      refine ⟨d, fun op hop => ?_⟩
      cases hx : opOkB l.length m.f1 m.f2.length op.f0 op.f1 with
      | true => rfl
      | false => rw [List.any_eq_true.mpr ⟨op, hop, by simp [hx]⟩] at hb; exact absurd hb (by simp)
    · exact absurd hb (by simp)
  · exact absurd h (by simp)
theorem opOk_jump {nl no : Nat} {y k a : Int} (h : opOkB nl y no k a = true) : (1 ≤ k ∧ k ≤ 18) ∧ (k = 7 ∨ k = 8 → 0 ≤ a ∧ a < no) := by
  unfold opOkB at h
  split at h
  · rename_i c
    refine ⟨c, fun hk => ?_⟩
    rcases hk with rfl | rfl <;> simp [mG, mMost] at h <;> omega
  · exact absurd h (by simp)
theorem takes_range {l : List S_impl_Method} (hl : ∀ m ∈ l, 0 ≤ m.f0 ∧ m.f0 ≤ 2) (k a : Int) : 0 ≤ (takesB l k a).1 ∧ (takesB l k a).1 ≤ 2 ∧ 0 ≤ (takesB l k a).2 ∧ (takesB l k a).2 ≤ 1 := by
  unfold takesB
  split
  · rename_i c
    split
    · split
      · rename_i d
        obtain ⟨a, rfl⟩ := Int.eq_ofNat_of_zero_le d.1
        rw [rd_impl_Method_at (by omega)]
        have := hl _ (List.getElem_mem (l := l) (n := a) (by omega))
        exact ⟨this.1, this.2, (by decide : (0 : Int) ≤ 1), (by decide : (1 : Int) ≤ 1)⟩
      · decide
    · obtain ⟨n, rfl⟩ := Int.eq_ofNat_of_zero_le (show 0 ≤ k by omega)
      rcases kinds18 (n := n) (by omega) (by omega) with rfl | rfl | rfl | rfl | rfl | rfl | rfl | rfl | rfl | rfl | rfl | rfl | rfl | rfl | rfl | rfl | rfl | rfl <;> decide
  · decide
def dB (l : List S_impl_Method) (k a d : Int) : Int := if (takesB l k a).1 > d then -1 else if d - (takesB l k a).1 + (takesB l k a).2 > 6 then -1 else d - (takesB l k a).1 + (takesB l k a).2
def nB (k a at_ : Int) : List Int := if k = 10 then [] else if k = 7 then [a] else if k = 8 then [at_ + 1, a] else [at_ + 1]
theorem l2Deep_tells {l : List S_impl_Method} (hn : l.length ≤ 1048576) (hl : ∀ m ∈ l, 0 ≤ m.f0 ∧ m.f0 ≤ 2) (k a d : Int) (h0 : -1 ≤ d) (h1 : d ≤ 6) : Ev (fun n => spec_l2Deep.f n l k a d) (dB l k a d) := by
  unfold spec_l2Deep.f dB
  have hr := takes_range hl k a
  refine Ev.bnd (specOpTakes_tells l k a hn) ?_
  rw [w64 (x := d - _) (by omega) (by omega), w64 (by omega) (by omega)]
  split
  · exact Ev.now _
  · split <;> exact Ev.now _
theorem l2Next_tells (k a at_ : Int) (h0 : 0 ≤ at_) (h1 : at_ ≤ 1048576) : spec_l2Next.f k a at_ = some (nB k a at_) := by
  unfold spec_l2Next.f nB
  rw [w64 (by omega) (by omega)]
  split
  · rfl
  · split
    · rfl
    · split <;> rfl
theorem next_tells (x y : Int) (ops : List S_impl_Op) (at_ : Int) (h0 : 0 ≤ at_) (h1 : at_ < ops.length) (hn : ops.length ≤ 1048576) : impl_Method_next.f x y ops at_ = some (nB (rd_impl_Op ops at_).f0 (rd_impl_Op ops at_).f1 at_) := by
  unfold impl_Method_next.f nB
  rw [if_pos h0, if_pos h1, w64 (by omega) (by omega)]
  by_cases e7 : (rd_impl_Op ops at_).f0 = 7
  · rw [if_pos e7, if_neg (by omega), if_pos e7]
  · by_cases e8 : (rd_impl_Op ops at_).f0 = 8
    · rw [if_neg e7, if_pos e8, if_neg (by omega), if_neg e7, if_pos e8]
    · by_cases e10 : (rd_impl_Op ops at_).f0 = 10
      · rw [if_neg e7, if_neg e8, if_pos e10, if_pos e10]
      · rw [if_neg e7, if_neg e8, if_neg e10, if_neg e10, if_neg e7, if_neg e8]
def negs (out : List Int) : Nat := out.countP (fun x => decide (x < 0))
theorem negs_set {out : List Int} {k v : Int} (hk : 0 ≤ k) (hkl : k < (out.length : Int)) (hn : rd out k < 0) (hv : 0 ≤ v) : negs (out.set k.toNat v) + 1 = negs out := by
  unfold negs
  obtain ⟨k, rfl⟩ := Int.eq_ofNat_of_zero_le hk
  unfold rd at hn
  rw [rdget (by omega)] at hn
  have hp : 0 < out.countP (fun x => decide (x < 0)) := List.countP_pos_iff.mpr ⟨out[k]'(by omega), List.getElem_mem _, by simpa using hn⟩
  rw [Int.toNat_natCast, List.countP_set (by omega)]
  simp only [decide_eq_true hn, if_true, decide_eq_false (show ¬ v < 0 by omega)]
  simp
  omega
theorem mx_le {a b c : Int} : mx a b ≤ c ↔ a ≤ c ∧ b ≤ c := by
  unfold mx
  split <;> omega
section
variable (l : List S_impl_Method) (x y : Int) (ops : List S_impl_Op)
def dAt (out : List Int) (i : Int) : Int := dB l (rd_impl_Op ops i).f0 (rd_impl_Op ops i).f1 (rd out i)
structure DInv (out todo : List Int) (most : Int) : Prop where
  len : out.length = ops.length
  rng : ∀ i : Int, 0 ≤ i → i < ops.length → -1 ≤ rd out i ∧ rd out i ≤ 6
  td : ∀ t ∈ todo, 0 ≤ t ∧ t < (ops.length : Int) ∧ 0 ≤ rd out t
  up : ∀ i : Int, 0 ≤ i → i < ops.length → 0 ≤ rd out i → i ∈ todo ∨ (0 ≤ dAt l ops out i ∧ rd out i ≤ most ∧ dAt l ops out i ≤ most)
  dn : 0 ≤ most ∧ (most = 0 ∨ ∃ i : Int, 0 ≤ i ∧ i < ops.length ∧ 0 ≤ rd out i ∧ (most = rd out i ∨ most = dAt l ops out i))
theorem DInv.more {l : List S_impl_Method} {ops : List S_impl_Op} {out todo : List Int} {most k v : Int} (h : DInv l ops out todo most) (hk : 0 ≤ k) (hkl : k < ops.length) (hn : rd out k < 0) (hv : 0 ≤ v) (hv6 : v ≤ 6) : DInv l ops (out.set k.toNat v) (todo ++ [k]) most := by
  have hlen := h.len
  have hrd : ∀ i : Int, 0 ≤ i → rd (out.set k.toNat v) i = if i = k then v else rd out i := fun i hi => rd_set hk (by omega) hi
  refine ⟨by simpa using h.len, fun i hi hil => ?_, fun t ht => ?_, fun i hi hil hr => ?_, h.dn.1, ?_⟩
  · rw [hrd i hi]
    have := h.rng i hi hil
    split <;> omega
  · rcases List.mem_append.mp ht with ht | ht
    · obtain ⟨a, b, c⟩ := h.td t ht
      refine ⟨a, b, ?_⟩
      rw [hrd t a]
      split <;> omega
    · obtain rfl := List.mem_singleton.mp ht
      refine ⟨hk, hkl, ?_⟩
      rw [hrd t hk, if_pos rfl]
      exact hv
  · by_cases e : i = k
    · exact .inl (List.mem_append.mpr (.inr (List.mem_singleton.mpr e)))
    · have e1 : rd (out.set k.toNat v) i = rd out i := by rw [hrd i hi, if_neg e]
      unfold dAt
      rw [e1] at hr ⊢
      rcases h.up i hi hil hr with h1 | h1
      · exact .inl (List.mem_append.mpr (.inl h1))
      · exact .inr h1
  · rcases h.dn.2 with h1 | ⟨i, hi, hil, hr, hm⟩
    · exact .inl h1
    · refine .inr ⟨i, hi, hil, ?_⟩
      have e : i ≠ k := fun e => by subst e; omega
      have e1 : rd (out.set k.toNat v) i = rd out i := by rw [hrd i hi, if_neg e]
      unfold dAt
      rw [e1]
      exact ⟨hr, hm⟩
def DFail (S : Nat → Option (List Int × Bool)) (M : Nat → Option (List Int × Int × Bool)) : Prop := ∃ o, Ev S (o, false) ∧ Ev M ([], 0, false)
theorem deep_inner (most deep : Int) (hd0 : 0 ≤ deep) (hd6 : deep ≤ 6) (at_ : Int) (nx : List Int) (hnx : nx.length ≤ 2) (hnx0 : ∀ i : Nat, i < nx.length → 0 ≤ rd nx i) (m : Nat) (hm : m ≤ 1000) :
    ∀ (d i : Nat) (out todo : List Int), nx.length - i = d → i ≤ nx.length → DInv l ops out todo most → todo.length + negs out ≤ m →
      DFail (fun k => spec_l2At.l2 k out todo deep nx i l x y ops) (fun k => impl_deep.l2 k out most (at_ :: todo) deep nx nx.length i l x y ops) ∨
      ∃ out' todo', DInv l ops out' todo' most ∧ todo'.length + negs out' ≤ m ∧ (∀ r, Ev (fun k => spec_l2At.l1 k out' todo' l x y ops) r → Ev (fun k => spec_l2At.l2 k out todo deep nx i l x y ops) r) ∧
        (∀ r, Ev (fun k => impl_deep.l1 k out' most todo' l x y ops) r → Ev (fun k => impl_deep.l2 k out most (at_ :: todo) deep nx nx.length i l x y ops) r) := by
  intro d
  induction d with
  | zero =>
    intro i out todo hd hi hI hm
    refine .inr ⟨out, todo, hI, hm, fun r hr => ?_, fun r hr => ?_⟩
    · exact Ev.step (fun k => by rw [spec_l2At.l2]) (Ev.ifn (by omega) (Ev.ifn (by omega) hr))
    · refine Ev.step (fun k => by rw [impl_deep.l2]) (Ev.ifn (by omega) (Ev.ifp (by simp; omega) ?_))
      exact hr
  | succ d ih =>
    intro i out todo hd hi hI hm
    have hlen := hI.len
    have hk0 := hnx0 i (by omega)
    by_cases hk : rd nx i ≥ (ops.length : Int)
    · refine .inl ⟨out, ?_, ?_⟩
      · exact Ev.step (fun k => by rw [spec_l2At.l2]) (Ev.ifp (by omega) (Ev.ifp (by omega) (Ev.ifn (by omega) (Ev.ifp hk (Ev.step (fun k => by rw [spec_l2At.j3]) (Ev.ifp rfl (Ev.now _)))))))
      · exact Ev.step (fun k => by rw [impl_deep.l2]) (Ev.ifp (by omega) (Ev.ifp (by omega) (Ev.ifp (by omega) (Ev.ifp hk (Ev.now _)))))
    · have hr := hI.rng (rd nx i) hk0 (by omega)
      by_cases hneg : rd out (rd nx i) < 0
      · have hng := negs_set (out := out) (k := rd nx i) (v := deep) hk0 (by omega) hneg hd0
        have ec : ((i + 1 : Nat) : Int) = (i : Int) + 1 := by omega
        rcases ih (i + 1) (out.set (rd nx i).toNat deep) (todo ++ [rd nx i]) (by omega) (by omega) (hI.more hk0 (by omega) hneg hd0 hd6) (by simp; omega) with ⟨o, h1, h2⟩ | ⟨o, t, hI', hm', h1, h2⟩
        · refine .inl ⟨o, ?_, ?_⟩
          · refine Ev.step (fun k => by rw [spec_l2At.l2]) (Ev.ifp (by omega) (Ev.ifp (by omega) (Ev.ifn (by omega) (Ev.ifn hk (Ev.ifp hk0 (Ev.ifp (by omega) (Ev.ifn (by omega) (Ev.step (fun k => by rw [spec_l2At.j3]) (Ev.ifn (by simp) (Ev.ifp hk0 (Ev.ifp (by omega) (Ev.ifp hneg (Ev.ifp (by omega) ?_)))))))))))))
            rw [w64 (by omega) (by omega), ← ec]
            exact h1
          · refine Ev.step (fun k => by rw [impl_deep.l2]) (Ev.ifp (by omega) (Ev.ifp (by omega) (Ev.ifp (by omega) (Ev.ifn hk (Ev.ifp hk0 (Ev.ifp (by omega) (Ev.ifp hneg (Ev.ifp (by simp; omega) ?_))))))))
            rw [w64 (by omega) (by omega), ← ec]
            exact h2
        · refine .inr ⟨o, t, hI', hm', fun r hr => ?_, fun r hr => ?_⟩
          · refine Ev.step (fun k => by rw [spec_l2At.l2]) (Ev.ifp (by omega) (Ev.ifp (by omega) (Ev.ifn (by omega) (Ev.ifn hk (Ev.ifp hk0 (Ev.ifp (by omega) (Ev.ifn (by omega) (Ev.step (fun k => by rw [spec_l2At.j3]) (Ev.ifn (by simp) (Ev.ifp hk0 (Ev.ifp (by omega) (Ev.ifp hneg (Ev.ifp (by omega) ?_)))))))))))))
            rw [w64 (by omega) (by omega), ← ec]
            exact h1 r hr
          · refine Ev.step (fun k => by rw [impl_deep.l2]) (Ev.ifp (by omega) (Ev.ifp (by omega) (Ev.ifp (by omega) (Ev.ifn hk (Ev.ifp hk0 (Ev.ifp (by omega) (Ev.ifp hneg (Ev.ifp (by simp; omega) ?_))))))))
            rw [w64 (by omega) (by omega), ← ec]
            exact h2 r hr
      · by_cases heq : rd out (rd nx i) = deep
        · have ec : ((i + 1 : Nat) : Int) = (i : Int) + 1 := by omega
          have eb : (rd out (rd nx i) != deep) = false := by simp [heq]
          have hS : ∀ r, Ev (fun k => spec_l2At.l2 k out todo deep nx ((i + 1 : Nat) : Int) l x y ops) r → Ev (fun k => spec_l2At.l2 k out todo deep nx i l x y ops) r := fun r hr => by
            refine Ev.step (fun k => by rw [spec_l2At.l2]) (Ev.ifp (by omega) (Ev.ifp (by omega) (Ev.ifn (by omega) (Ev.ifn hk (Ev.ifp hk0 (Ev.ifp (by omega) (Ev.ifp (by omega) ?_)))))))
            rw [eb]
            refine Ev.step (fun k => by rw [spec_l2At.j3]) (Ev.ifn (by simp) (Ev.ifp hk0 (Ev.ifp (by omega) (Ev.ifn hneg ?_))))
            rw [w64 (by omega) (by omega), ← ec]
            exact hr
          have hM : ∀ r, Ev (fun k => impl_deep.l2 k out most (at_ :: todo) deep nx nx.length ((i + 1 : Nat) : Int) l x y ops) r → Ev (fun k => impl_deep.l2 k out most (at_ :: todo) deep nx nx.length i l x y ops) r := fun r hr => by
            refine Ev.step (fun k => by rw [impl_deep.l2]) (Ev.ifp (by omega) (Ev.ifp (by omega) (Ev.ifp (by omega) (Ev.ifn hk (Ev.ifp hk0 (Ev.ifp (by omega) (Ev.ifn hneg (Ev.ifp heq ?_))))))))
            rw [w64 (by omega) (by omega), ← ec]
            exact hr
          rcases ih (i + 1) out todo (by omega) (by omega) hI hm with ⟨o, h1, h2⟩ | ⟨o, t, hI', hm', h1, h2⟩
          · exact .inl ⟨o, hS _ h1, hM _ h2⟩
          · exact .inr ⟨o, t, hI', hm', fun r hr => hS r (h1 r hr), fun r hr => hM r (h2 r hr)⟩
        · refine .inl ⟨out, ?_, ?_⟩
          · have eb : (rd out (rd nx i) != deep) = true := by simp [heq]
            refine Ev.step (fun k => by rw [spec_l2At.l2]) (Ev.ifp (by omega) (Ev.ifp (by omega) (Ev.ifn (by omega) (Ev.ifn hk (Ev.ifp hk0 (Ev.ifp (by omega) (Ev.ifp (by omega) ?_)))))))
            rw [eb]
            exact Ev.step (fun k => by rw [spec_l2At.j3]) (Ev.ifp rfl (Ev.now _))
          · exact Ev.step (fun k => by rw [impl_deep.l2]) (Ev.ifp (by omega) (Ev.ifp (by omega) (Ev.ifp (by omega) (Ev.ifn hk (Ev.ifp hk0 (Ev.ifp (by omega) (Ev.ifn hneg (Ev.ifn heq (Ev.now _)))))))))
theorem deep_rounds (hl4 : l.length ≤ 4) (hl : ∀ m ∈ l, 0 ≤ m.f0 ∧ m.f0 ≤ 2) (hn : ops.length ≤ 14) (hj : ∀ i : Int, 0 ≤ i → i < ops.length → (rd_impl_Op ops i).f0 = 7 ∨ (rd_impl_Op ops i).f0 = 8 → 0 ≤ (rd_impl_Op ops i).f1) :
    ∀ (m : Nat) (out todo : List Int) (most : Int), m ≤ 1000 → DInv l ops out todo most → todo.length + negs out ≤ m →
      DFail (fun k => spec_l2At.l1 k out todo l x y ops) (fun k => impl_deep.l1 k out most todo l x y ops) ∨
      ∃ out' most', DInv l ops out' [] most' ∧ Ev (fun k => spec_l2At.l1 k out todo l x y ops) (out', true) ∧ Ev (fun k => impl_deep.l1 k out most todo l x y ops) (out', most', true) := by
  intro m
  induction m with
  | zero =>
    intro out todo most _ hI hm
    obtain rfl : todo = [] := List.eq_nil_of_length_eq_zero (by omega)
    exact .inr ⟨out, most, hI, Ev.step (fun k => by rw [spec_l2At.l1]) (Ev.ifn (by simp) (Ev.now _)), Ev.step (fun k => by rw [impl_deep.l1]) (Ev.ifn (by simp) (Ev.now _))⟩
  | succ m ih =>
    intro out todo most hm1 hI hm
    cases todo with
    | nil => exact .inr ⟨out, most, hI, Ev.step (fun k => by rw [spec_l2At.l1]) (Ev.ifn (by simp) (Ev.now _)), Ev.step (fun k => by rw [impl_deep.l1]) (Ev.ifn (by simp) (Ev.now _))⟩
    | cons at_ rest =>
      have hlen := hI.len
      obtain ⟨ha0, hal, har⟩ := hI.td at_ (List.mem_cons_self ..)
      have hrg := hI.rng at_ ha0 hal
      have e0 : rd (at_ :: rest) 0 = at_ := rfl
      have hlr : rest.length + 1 + negs out ≤ m + 1 := by simpa using hm
      have htr := takes_range hl (rd_impl_Op ops at_).f0 (rd_impl_Op ops at_).f1
      have hsz : ((at_ :: rest).length : Int) = (rest.length : Int) + 1 := by simp
      have hdeep := l2Deep_tells (by omega) hl (rd_impl_Op ops at_).f0 (rd_impl_Op ops at_).f1 (rd out at_) (by omega) (by omega)
      have hnext := l2Next_tells (rd_impl_Op ops at_).f0 (rd_impl_Op ops at_).f1 at_ ha0 (by omega)
      have hnxl : (nB (rd_impl_Op ops at_).f0 (rd_impl_Op ops at_).f1 at_).length ≤ 2 := by unfold nB; split; · simp
                                                                                            · split; · simp
                                                                                              · split <;> simp
      have hnx0 : ∀ i : Nat, i < (nB (rd_impl_Op ops at_).f0 (rd_impl_Op ops at_).f1 at_).length → 0 ≤ rd (nB (rd_impl_Op ops at_).f0 (rd_impl_Op ops at_).f1 at_) i := by
        intro i hi
        have hj' := hj at_ ha0 hal
        unfold rd
        rw [rdget hi]
        have hmem := List.getElem_mem hi
        revert hmem
        generalize (nB (rd_impl_Op ops at_).f0 (rd_impl_Op ops at_).f1 at_)[i] = z
        unfold nB
        split
        · simp
        · split
          · rename_i h7
            intro hmem
            obtain rfl := List.mem_singleton.mp hmem
            exact hj' (.inl h7)
          · split
            · rename_i h8
              intro hmem
              rcases List.mem_cons.mp hmem with rfl | hmem
              · omega
              · obtain rfl := List.mem_singleton.mp hmem
                exact hj' (.inr h8)
            · intro hmem
              obtain rfl := List.mem_singleton.mp hmem
              omega
      have hS : ∀ r, Ev (fun k => spec_l2At.l2 k out rest (dAt l ops out at_) (nB (rd_impl_Op ops at_).f0 (rd_impl_Op ops at_).f1 at_) 0 l x y ops) r → Ev (fun k => spec_l2At.l1 k out (at_ :: rest) l x y ops) r := fun r hr => by
        refine Ev.step (fun k => by rw [spec_l2At.l1]) ?_
        refine Ev.ifp (by omega) (Ev.ifp (by omega) ?_)
        refine Ev.bindc rfl (Ev.ifp (by omega) ?_)
        refine Ev.bindc rfl (Ev.ifp (by simp; omega) ?_)
        rw [e0]
        refine Ev.ifp (by omega) (Ev.ifp (by omega) (Ev.ifp (by omega) ?_))
        refine Ev.bnd hdeep ?_
        refine Ev.bindc hnext ?_
        exact hr
      have hto := implOpTakes_tells l (rd_impl_Op ops at_).f0 (rd_impl_Op ops at_).f1
      by_cases hbad : dAt l ops out at_ < 0
      · refine .inl ?_
        have hSf : ∃ o, Ev (fun k => spec_l2At.l2 k out rest (dAt l ops out at_) (nB (rd_impl_Op ops at_).f0 (rd_impl_Op ops at_).f1 at_) 0 l x y ops) (o, false) := by
          by_cases hz : (0 : Int) < (nB (rd_impl_Op ops at_).f0 (rd_impl_Op ops at_).f1 at_).length
          · exact ⟨out, Ev.step (fun k => by rw [spec_l2At.l2]) (Ev.ifp hz (Ev.ifp (by omega) (Ev.ifp hbad (Ev.step (fun k => by rw [spec_l2At.j3]) (Ev.ifp rfl (Ev.now _))))))⟩
          · exact ⟨out, Ev.step (fun k => by rw [spec_l2At.l2]) (Ev.ifn hz (Ev.ifp hbad (Ev.now _)))⟩
        obtain ⟨o, ho⟩ := hSf
        refine ⟨o, hS _ ho, ?_⟩
        refine Ev.step (fun k => by rw [impl_deep.l1]) (Ev.ifp (by omega) (Ev.ifp (by omega) (Ev.ifp (by omega) (Ev.ifp (by omega) ?_))))
        rw [e0]
        refine Ev.bindc hto (Ev.ifp (by omega) ?_)
        unfold dAt dB at hbad
        by_cases hgt : (takesB l (rd_impl_Op ops at_).f0 (rd_impl_Op ops at_).f1).1 > rd out at_
        · exact Ev.ifp hgt (Ev.step (fun k => by rw [impl_deep.j3]) (Ev.ifp rfl (Ev.now _)))
        · rw [if_neg hgt] at hbad
          have h6 : rd out at_ - (takesB l (rd_impl_Op ops at_).f0 (rd_impl_Op ops at_).f1).1 + (takesB l (rd_impl_Op ops at_).f0 (rd_impl_Op ops at_).f1).2 > 6 := by
            by_cases h6 : rd out at_ - (takesB l (rd_impl_Op ops at_).f0 (rd_impl_Op ops at_).f1).1 + (takesB l (rd_impl_Op ops at_).f0 (rd_impl_Op ops at_).f1).2 > 6
            · exact h6
            · rw [if_neg h6] at hbad
              omega
          rw [w64 (x := rd out at_ - _) (by omega) (by omega), w64 (by omega) (by omega), decide_eq_true h6]
          exact Ev.ifn hgt (Ev.step (fun k => by rw [impl_deep.j3]) (Ev.ifp rfl (Ev.now _)))
      · have hgt : ¬ (takesB l (rd_impl_Op ops at_).f0 (rd_impl_Op ops at_).f1).1 > rd out at_ := fun h => hbad (by unfold dAt dB; rw [if_pos h]; omega)
        have h6 : ¬ rd out at_ - (takesB l (rd_impl_Op ops at_).f0 (rd_impl_Op ops at_).f1).1 + (takesB l (rd_impl_Op ops at_).f0 (rd_impl_Op ops at_).f1).2 > 6 := fun h => hbad (by unfold dAt dB; rw [if_neg hgt, if_pos h]; omega)
        have hdv : dAt l ops out at_ = rd out at_ - (takesB l (rd_impl_Op ops at_).f0 (rd_impl_Op ops at_).f1).1 + (takesB l (rd_impl_Op ops at_).f0 (rd_impl_Op ops at_).f1).2 := by unfold dAt dB; rw [if_neg hgt, if_neg h6]
        have hM : ∀ r, Ev (fun k => impl_deep.l2 k out (mx (mx most (rd out at_)) (dAt l ops out at_)) (at_ :: rest) (dAt l ops out at_) (nB (rd_impl_Op ops at_).f0 (rd_impl_Op ops at_).f1 at_) (nB (rd_impl_Op ops at_).f0 (rd_impl_Op ops at_).f1 at_).length 0 l x y ops) r → Ev (fun k => impl_deep.l1 k out most (at_ :: rest) l x y ops) r := fun r hr => by
          refine Ev.step (fun k => by rw [impl_deep.l1]) (Ev.ifp (by omega) (Ev.ifp (by omega) (Ev.ifp (by omega) (Ev.ifp (by omega) ?_))))
          rw [e0]
          refine Ev.bindc hto (Ev.ifp (by omega) (Ev.ifn hgt ?_))
          rw [w64 (x := rd out at_ - _) (by omega) (by omega), w64 (by omega) (by omega), decide_eq_false h6, ← hdv]
          refine Ev.step (fun k => by rw [impl_deep.j3]) (Ev.ifn (by simp) (Ev.ifp ha0 (Ev.ifp (by omega) ?_)))
          exact Ev.bindc (next_tells x y ops at_ ha0 hal (by omega)) hr
        have hI' : DInv l ops out rest (mx (mx most (rd out at_)) (dAt l ops out at_)) := by
          refine ⟨hlen, hI.rng, fun t ht => hI.td t (List.mem_cons_of_mem _ ht), fun i hi hil hr => ?_, ?_, ?_⟩
          · rcases hI.up i hi hil hr with h1 | ⟨h1, h2, h3⟩
            · rcases List.mem_cons.mp h1 with rfl | h1
              · refine .inr ⟨by omega, ?_, ?_⟩ <;> (unfold mx; split <;> (try split at * <;> omega) <;> omega)
              · exact .inl h1
            · refine .inr ⟨h1, ?_, ?_⟩ <;> (unfold mx; split <;> (try split at * <;> omega) <;> omega)
          · have := hI.dn.1
            unfold mx
            split <;> (try split at * <;> omega) <;> omega
          · have hc : mx (mx most (rd out at_)) (dAt l ops out at_) = most ∨ mx (mx most (rd out at_)) (dAt l ops out at_) = rd out at_ ∨ mx (mx most (rd out at_)) (dAt l ops out at_) = dAt l ops out at_ := by
              unfold mx
              split <;> split <;> simp
            rcases hc with h | h | h
            · rw [h]
              exact hI.dn.2
            · exact .inr ⟨at_, ha0, hal, har, .inl h⟩
            · exact .inr ⟨at_, ha0, hal, har, .inr h⟩
        rcases deep_inner l x y ops _ (dAt l ops out at_) (by omega) (by omega) at_ _ hnxl hnx0 m (by omega) _ 0 out rest rfl (by omega) hI' (by omega) with ⟨o, h1, h2⟩ | ⟨o, t, hI2, hm2, h1, h2⟩
        · exact .inl ⟨o, hS _ h1, hM _ h2⟩
        · rcases ih o t _ (by omega) hI2 hm2 with ⟨o2, g1, g2⟩ | ⟨o2, m2, hI3, g1, g2⟩
          · exact .inl ⟨o2, hS _ (h1 _ g1), hM _ (h2 _ g2)⟩
          · exact .inr ⟨o2, m2, hI3, hS _ (h1 _ g1), hM _ (h2 _ g2)⟩
end
end Go.Proofs.Ytcllkemhlhbdgaa.G
namespace Go.Proofs.Ytcllkemhlhbdgaa.G
set_option linter.unusedSimpArgs false
open Go.RowKit Go.Proofs.YtcllkemhlhbdgaaW.PrintWords Go.Proofs.YtcllkemhlhbdgaaW.PrintLast Go.Proofs.YtcllkemhlhbdgaaW.PrintMore
theorem in_tells (a b c : Int) : impl_in.f a b c = some (decide (b ≤ a ∧ a ≤ c)) := l6In_tells a b c
theorem spec_fill (l : List S_impl_Method) (x y : Int) (ops : List S_impl_Op) (hn : ops.length ≤ 1048576) (r : List Int × Bool) : ∀ (d i : Nat), ops.length - i = d → i ≤ ops.length →
    Ev (fun k => spec_l2At.l0 k (List.replicate ops.length (-1)) ops.length l x y ops) r → Ev (fun k => spec_l2At.l0 k (List.replicate i (-1)) i l x y ops) r := by
  intro d
  induction d with
  | zero =>
    intro i hd hi h
    obtain rfl : i = ops.length := by omega
    exact h
  | succ d ih =>
    intro i hd hi h
    refine Ev.step (fun k => by rw [spec_l2At.l0]) (Ev.ifp (by omega) (Ev.ifp (by simp; omega) ?_))
    rw [w64 (by omega) (by omega), ← List.replicate_succ']
    exact ih (i + 1) (by omega) (by omega) h
theorem impl_fill (l : List S_impl_Method) (x y : Int) (ops : List S_impl_Op) (hn : ops.length ≤ 1048576) (r : List Int × Int × Bool)
    (h : Ev (fun k => impl_deep.l0 k (List.replicate ops.length (-1)) ops.length ops.length l x y ops) r) : ∀ (d i : Nat), ops.length - i = d → i ≤ ops.length →
    Ev (fun k => impl_deep.l0 k (List.replicate i (-1) ++ List.replicate (ops.length - i) 0) ops.length i l x y ops) r := by
  intro d
  induction d with
  | zero =>
    intro i hd hi
    obtain rfl : i = ops.length := by omega
    rw [Nat.sub_self, List.replicate_zero, List.append_nil]
    exact h
  | succ d ih =>
    intro i hd hi
    refine Ev.step (fun k => by rw [impl_deep.l0]) (Ev.ifp (by omega) (Ev.ifp (by omega) (Ev.ifp (by simp; omega) ?_)))
    rw [w64 (by omega) (by omega)]
    have e : (List.replicate i (-1 : Int) ++ List.replicate (ops.length - i) 0).set (i : Int).toNat (-1) = List.replicate (i + 1) (-1) ++ List.replicate (ops.length - (i + 1)) 0 := by
      have e1 : ops.length - i = (ops.length - (i + 1)) + 1 := by omega
      rw [e1, List.replicate_succ, Int.toNat_natCast, List.set_append_right _ _ (by simp), List.length_replicate, Nat.sub_self, List.set_cons_zero, List.replicate_succ', List.append_assoc]
      rfl
    rw [e]
    exact ih (i + 1) (by omega) (by omega)
theorem rd_replicate (n : Nat) (v i : Int) (h0 : 0 ≤ i) (h1 : i < n) : rd (List.replicate n v) i = v := by
  obtain ⟨i, rfl⟩ := Int.eq_ofNat_of_zero_le h0
  unfold rd
  rw [rdget (by simp; omega), List.getElem_replicate]
theorem deep_start (l : List S_impl_Method) (ops : List S_impl_Op) (hz : 0 < ops.length) : DInv l ops ((List.replicate ops.length (-1)).set (0 : Int).toNat 0) [0] 0 := by
  have hrd : ∀ i : Int, 0 ≤ i → i < ops.length → rd ((List.replicate ops.length (-1)).set (0 : Int).toNat 0) i = if i = 0 then 0 else -1 := fun i hi hil => by
    rw [rd_set (by omega) (by simp; omega) hi, rd_replicate _ _ _ hi hil]
  refine ⟨by simp, fun i hi hil => ?_, fun t ht => ?_, fun i hi hil hr => ?_, by omega, .inl rfl⟩
  · rw [hrd i hi hil]
    split <;> omega
  · obtain rfl := List.mem_singleton.mp ht
    rw [hrd 0 (by omega) (by omega)]
    simp
    omega
  · rw [hrd i hi hil] at hr
    split at hr
    · rename_i e
      exact .inl (by simp [e])
    · omega
theorem deepAt_both (l : List S_impl_Method) (hf : fewI l) (a : Int) :
    (Ev (fun k => spec_DeepAt.f k l a) ([], false) ∧ Ev (fun k => impl_deep.f k l a) ([], 0, false)) ∨
    ∃ out most, progOkB l = true ∧ (0 ≤ a ∧ a < l.length) ∧ DInv l (rd_impl_Method l a).f2 out [] most ∧ Ev (fun k => spec_DeepAt.f k l a) (out, true) ∧ Ev (fun k => impl_deep.f k l a) (out, most, true) := by
  have hl1 := hf.1
  have hw : wrap64 ((l.length : Int) - 1) = (l.length : Int) - 1 := w64 (by omega) (by omega)
  cases hok : progOkB l with
  | false =>
    refine .inl ⟨?_, ?_⟩
    · unfold spec_DeepAt.f
      exact Ev.bnd (hok ▸ specProgOk_tells l hf) (Ev.ifn (by simp) (Ev.step (fun k => by rw [spec_DeepAt.j0]) (Ev.ifp rfl (Ev.now _))))
    · unfold impl_deep.f impl_ProgOk.f
      rw [hok]
      exact Ev.bindc rfl (Ev.ifn (by simp) (Ev.step (fun k => by rw [impl_deep.j0]) (Ev.ifp rfl (Ev.now _))))
  | true =>
    obtain ⟨f1, f4, -, fm⟩ := progOk_facts hok
    by_cases ha : 0 ≤ a ∧ a ≤ (l.length : Int) - 1
    · obtain ⟨n, rfl⟩ := Int.eq_ofNat_of_zero_le ha.1
      have hm : rd_impl_Method l (n : Int) ∈ l := by rw [rd_impl_Method_at (by omega)]; exact List.getElem_mem _
      obtain ⟨⟨-, -, -, -, h14⟩, hop⟩ := fm _ hm
      have hS0 : ∀ r, Ev (fun k => (spec_l2At.f k l (rd_impl_Method l n).f0 (rd_impl_Method l n).f1 (rd_impl_Method l n).f2).bind fun bt108 => (if bt108.2 = true then (some (bt108.1, true)) else (some ((([] : List Int)), false)))) r → Ev (fun k => spec_DeepAt.f k l n) r := fun r hr => by
        unfold spec_DeepAt.f
        refine Ev.bnd (hok ▸ specProgOk_tells l hf) (Ev.ifp rfl ?_)
        rw [hw]
        refine Ev.bindc (l6In_tells _ _ _) (Ev.step (fun k => by rw [spec_DeepAt.j0]) (Ev.ifn (by simp only [decide_eq_true ha]; simp) (Ev.ifp (by omega) (Ev.ifp (by omega) ?_))))
        exact hr
      have hM0 : ∀ r, Ev (fun k => impl_deep.j0 k n ((((rd_impl_Method l n).f2).length : Int) == 0) l) r → Ev (fun k => impl_deep.f k l n) r := fun r hr => by
        unfold impl_deep.f impl_ProgOk.f
        rw [hok, hw]
        exact Ev.bindc rfl (Ev.ifp rfl (Ev.bindc (in_tells _ _ _) (Ev.ifp (decide_eq_true ha) (Ev.ifp (by omega) (Ev.ifp (by omega) hr)))))
      generalize hops : (rd_impl_Method l n).f2 = ops at *
      have hS1 : ∀ r, Ev (fun k => spec_l2At.l0 k (List.replicate ops.length (-1)) ops.length l (rd_impl_Method l n).f0 (rd_impl_Method l n).f1 ops) r → Ev (fun k => spec_l2At.f k l (rd_impl_Method l n).f0 (rd_impl_Method l n).f1 ops) r := fun r hr => by
        unfold spec_l2At.f
        exact spec_fill l _ _ ops (by omega) r _ 0 rfl (by omega) hr
      by_cases hz : ops.length = 0
      · refine .inl ⟨hS0 _ (Ev.bnd (hS1 _ (Ev.step (fun k => by rw [spec_l2At.l0]) (Ev.ifn (by omega) (Ev.ifp (by omega) (Ev.now _))))) (Ev.ifn (by simp) (Ev.now _))), hM0 _ ?_⟩
        exact Ev.step (fun k => by rw [impl_deep.j0]) (Ev.ifp (by simp [hz]) (Ev.now _))
      · have hM1 : ∀ r, Ev (fun k => impl_deep.l1 k ((List.replicate ops.length (-1)).set (0 : Int).toNat 0) 0 [0] l (rd_impl_Method l n).f0 (rd_impl_Method l n).f1 ops) r → Ev (fun k => impl_deep.f k l n) r := fun r hr => by
          refine hM0 _ (Ev.step (fun k => by rw [impl_deep.j0]) ?_)
          rw [hops]
          refine Ev.ifn (by simp only [beq_iff_eq]; omega) (Ev.ifp (by omega) (Ev.ifp (by omega) (Ev.ifp (by omega) (Ev.ifp (by omega) ?_))))
          refine Ev.bindc rfl ?_
          rw [Int.toNat_natCast, List.length_replicate]
          have := impl_fill l (rd_impl_Method l n).f0 (rd_impl_Method l n).f1 ops (by omega) r (Ev.step (fun k => by rw [impl_deep.l0]) (Ev.ifn (by omega) (Ev.ifp (by simp; omega) hr))) _ 0 rfl (by omega)
          exact this
        have hSr : ∀ r, Ev (fun k => spec_l2At.l1 k ((List.replicate ops.length (-1)).set (0 : Int).toNat 0) [0] l (rd_impl_Method l n).f0 (rd_impl_Method l n).f1 ops) r → Ev (fun k => spec_l2At.f k l (rd_impl_Method l n).f0 (rd_impl_Method l n).f1 ops) r := fun r hr =>
          hS1 _ (Ev.step (fun k => by rw [spec_l2At.l0]) (Ev.ifn (by omega) (Ev.ifn (by omega) (Ev.ifp (by simp; omega) hr))))
        have hng : negs ((List.replicate ops.length (-1 : Int)).set (0 : Int).toNat 0) ≤ 14 := by
          unfold negs
          refine Nat.le_trans List.countP_le_length ?_
          simp
          exact h14
        rcases deep_rounds l (rd_impl_Method l n).f0 (rd_impl_Method l n).f1 ops f4 (fun m hm => ⟨(fm m hm).1.1, (fm m hm).1.2.1⟩) h14 (fun i hi hil hk => by
            obtain ⟨i, rfl⟩ := Int.eq_ofNat_of_zero_le hi
            rw [rd_impl_Op_at (by omega)] at hk ⊢
            exact ((opOk_jump (hop _ (List.getElem_mem _))).2 hk).1) 15 _ [0] 0 (by omega) (deep_start l ops (by omega)) (by simp only [List.length_cons, List.length_nil]; omega) with ⟨o, h1, h2⟩ | ⟨o, m2, hI, h1, h2⟩
        · exact .inl ⟨hS0 _ (Ev.bnd (hSr _ h1) (Ev.ifn (by simp) (Ev.now _))), hM1 _ h2⟩
        · exact .inr ⟨o, m2, rfl, ⟨ha.1, by have := ha.2; omega⟩, hI, hS0 _ (Ev.bnd (hSr _ h1) (Ev.ifp rfl (Ev.now _))), hM1 _ h2⟩
    · refine .inl ⟨?_, ?_⟩
      · unfold spec_DeepAt.f
        refine Ev.bnd (hok ▸ specProgOk_tells l hf) (Ev.ifp rfl ?_)
        rw [hw]
        exact Ev.bindc (l6In_tells _ _ _) (Ev.step (fun k => by rw [spec_DeepAt.j0]) (Ev.ifp (by rw [decide_eq_false ha]; rfl) (Ev.now _)))
      · unfold impl_deep.f impl_ProgOk.f
        rw [hok, hw]
        exact Ev.bindc rfl (Ev.ifp rfl (Ev.bindc (in_tells _ _ _) (Ev.ifn (by simpa using ha) (Ev.step (fun k => by rw [impl_deep.j0]) (Ev.ifp rfl (Ev.now _))))))
theorem most_fold (l : List S_impl_Method) (hf : fewI l) (hl : ∀ m ∈ l, 0 ≤ m.f0 ∧ m.f0 ≤ 2) (a : Int) (ha : 0 ≤ a ∧ a < l.length) (out : List Int) (most : Int) (hI : DInv l (rd_impl_Method l a).f2 out [] most) (hn : (rd_impl_Method l a).f2.length ≤ 14) :
    Ev (fun k => spec_DeepMost.l0 k a out 0 0 l) most := by
  have hlen := hI.len
  have hl1 := hf.1
  obtain ⟨r, rfl, hr⟩ := ev_for0 (σ := Int) (fun k i s => spec_DeepMost.l0 k a out s i l) out.length
    (fun i s => 0 ≤ s ∧ s ≤ most ∧ ∀ j : Int, 0 ≤ j → j < i → 0 ≤ rd out j → rd out j ≤ s ∧ dAt l (rd_impl_Method l a).f2 out j ≤ s) (fun r => r = most)
    (fun i s hi ⟨hs0, hs1, hs2⟩ => by
      have hrg := hI.rng i (by omega) (by omega)
      by_cases hr : rd out (i : Int) ≥ 0
      · have hup := (hI.up i (by omega) (by omega) hr).resolve_left (by simp)
        refine .inr ⟨mx s (mx (rd out i) (dAt l (rd_impl_Method l a).f2 out i)), ⟨?_, ?_, fun j hj0 hj hjr => ?_⟩, fun r hr' => ?_⟩
        · unfold mx; split <;> (try split at *) <;> omega
        · exact mx_le.mpr ⟨hs1, mx_le.mpr hup.2⟩
        · by_cases e : j = i
          · subst e
            refine ⟨?_, ?_⟩ <;> (unfold mx; split <;> split at * <;> omega)
          · have := hs2 j hj0 (by omega) hjr
            refine ⟨?_, ?_⟩ <;> (unfold mx; split <;> split at * <;> omega)
        · refine Ev.step (fun k => by rw [spec_DeepMost.l0]) (Ev.ifp (by omega) (Ev.ifp (by omega) (Ev.ifp hr (Ev.ifp ha.1 (Ev.ifp ha.2 (Ev.ifp (by omega) ?_))))))
          refine Ev.bnd (l2Deep_tells hl1 hl _ _ _ hrg.1 hrg.2) ?_
          rw [w64 (by omega) (by omega)]
          exact hr'
      · refine .inr ⟨s, ⟨hs0, hs1, fun j hj0 hj hjr => ?_⟩, fun r hr' => ?_⟩
        · by_cases e : j = i
          · subst e; omega
          · exact hs2 j hj0 (by omega) hjr
        · refine Ev.step (fun k => by rw [spec_DeepMost.l0]) (Ev.ifp (by omega) (Ev.ifp (by omega) (Ev.ifn hr ?_)))
          rw [w64 (by omega) (by omega)]
          exact hr')
    (fun s ⟨hs0, hs1, hs2⟩ => by
      refine ⟨s, ?_, Ev.step (fun k => by rw [spec_DeepMost.l0]) (Ev.ifn (by omega) (Ev.now _))⟩
      rcases hI.dn.2 with h | ⟨i, hi, hil, hir, hm⟩
      · omega
      · have := hs2 i hi (by omega) hir
        rcases hm with h | h <;> omega)
    0 ⟨by omega, hI.dn.1, fun j h0 h1 => absurd h1 (by omega)⟩
  exact hr
end Go.Proofs.Ytcllkemhlhbdgaa.G
