import Derived.Test.YtcllkemhlhbdgaaK7d0d1674
import Derived.Test.YtcllkemhlhbdgaaKb4d9705f
import Derived.Test.YtcllkemhlhbdgaaKeddf13f3
import Derived.Test.YtcllkemhlhbdgaaK093d5d57
import Derived.Test.YtcllkemhlhbdgaaKcda157e1
namespace Go.Proofs.Ytcllkemhlhbdgaa.G
open Go.RowKit Go.Proofs.YtcllkemhlhbdgaaW.PrintWords Go.Proofs.YtcllkemhlhbdgaaW.PrintLast Go.Proofs.YtcllkemhlhbdgaaW.PrintMore
attribute [local go_sem] max2_int min2_int max_two min_two max_three min_three max_four min_four
set_option linter.unusedVariables false
set_option linter.unusedSimpArgs false
def laws_toTwinS.l0 : Nat → List (S_laws_Twin) → List (S_impl_Twin) → Int → Option ((List (S_impl_Twin)))
  | 0, _, _, _ => none
  | k + 1, x0, x3, x4 => if x4 < (x0.length : Int) then (if 0 ≤ x4 then ((laws_toTwin.f k ((rd_laws_Twin x0 x4).f0) ((rd_laws_Twin x0 x4).f1) ((rd_laws_Twin x0 x4).f2.f0) ((rd_laws_Twin x0 x4).f2.f1) ((rd_laws_Twin x0 x4).f2.f2) ((rd_laws_Twin x0 x4).f2.f3) ((rd_laws_Twin x0 x4).f2.f4) ((rd_laws_Twin x0 x4).f2.f5)).bind fun bt105 => (if x4 < (x3.length : Int) then (laws_toTwinS.l0 k x0 (x3.set (x4 : Int).toNat (⟨bt105.1, bt105.2.1, (⟨bt105.2.2.1, bt105.2.2.2.1, bt105.2.2.2.2.1, bt105.2.2.2.2.2.1, bt105.2.2.2.2.2.2.1, bt105.2.2.2.2.2.2.2⟩ : S_impl_Call)⟩ : S_impl_Twin)) (wrap64 (x4 + 1))) else (none))) else (none)) else (some x3)
def laws_toTwinS.f (k : Nat) (l0 : List (S_laws_Twin)) : Option ((List (S_impl_Twin))) := if 0 ≤ (l0.length : Int) then (if ((l0.length : Int) : Int).toNat ≤ 2932031007402 then (laws_toTwinS.l0 k l0 (List.replicate ((l0.length : Int) : Int).toNat z_impl_Twin) 0) else (none)) else (none)
theorem laws_toTwinS.mono_l : ∀ k, (∀ y0 y1 y2, LeO (laws_toTwinS.l0 k y0 y1 y2) (laws_toTwinS.l0 (k + 1) y0 y1 y2))
  | 0 => fun _ _ _ r h => by simp [laws_toTwinS.l0] at h
  | k + 1 => by
    have ih0 := laws_toTwinS.mono_l k
    · intro y0 y1 y2
      unfold laws_toTwinS.l0
      repeat' first
      | (with_reducible exact ih0 _ _ _)
      | (with_reducible exact laws_toTwin.mono _ _ _ _ _ _ _ _ _)
      | (with_reducible exact LeO.refl _)
      | (with_reducible exact LeO.none _)
      | (with_reducible refine LeO.ite ?_ ?_)
      | (with_reducible refine LeO.bind ?_ (fun _ => ?_))
      | exact ih0 _ _ _
      | exact laws_toTwin.mono _ _ _ _ _ _ _ _ _
      | exact LeO.none _
      | refine LeO.ite ?_ ?_
      | refine LeO.bind ?_ (fun _ => ?_)
theorem laws_toTwinS.mono : ∀ a0 k, LeO (laws_toTwinS.f k a0) (laws_toTwinS.f (k + 1) a0) := by
  intro a0 k
  have ih0 := laws_toTwinS.mono_l k
  unfold laws_toTwinS.f
  repeat' first
      | (with_reducible exact ih0 _ _ _)
      | (with_reducible exact laws_toTwin.mono _ _ _ _ _ _ _ _ _)
      | (with_reducible exact LeO.refl _)
      | (with_reducible exact LeO.none _)
      | (with_reducible refine LeO.ite ?_ ?_)
      | (with_reducible refine LeO.bind ?_ (fun _ => ?_))
      | exact ih0 _ _ _
      | exact laws_toTwin.mono _ _ _ _ _ _ _ _ _
      | exact LeO.none _
      | refine LeO.ite ?_ ?_
      | refine LeO.bind ?_ (fun _ => ?_)
set_option maxHeartbeats 8000000 in
set_option maxRecDepth 100000 in
theorem laws_toTwinS.calls (k : Nat) (A0 : Option Addr) (c0 : Nat) (l0 : List (S_laws_Twin)) (r : List (S_impl_Twin)) (w : World) (hr0 : Kd.C k_laws_Twin w A0 l0.length l0) (hc0 : l0.length ≤ c0) (h : laws_toTwinS.f k l0 = some r) :
    Calls Try.prog 78 #[.slice A0 l0.length c0] w fun e w' => ∃ v0_ : Value, e = .returned (v0_) ∧ Kd.S k_impl_Twin 123 w' w.heap.size (fun _ => True) v0_ r ∧ Below w.heap.size w w' := by
  have hu159 := Try.underlying159
  have hu123 := Try.underlying123
  have HR0 := Aside0.mk hr0
  have HC0 := Aside0.mk hc0
  clear hr0 hc0
  have HB := Aside0.mk (Below.refl w.heap.size w)
  have H : (if 0 ≤ (l0.length : Int) then (if ((l0.length : Int) : Int).toNat ≤ 2932031007402 then (laws_toTwinS.l0 k l0 (List.replicate ((l0.length : Int) : Int).toNat z_impl_Twin) 0) else (none)) else (none)) = some r := h
  clear h
  by_cases c2 : 0 ≤ (l0.length : Int)
  · rw [if_pos c2] at H
    have c2b0 := eq_true c2
    have c2b1 : decide (0 ≤ (l0.length : Int)) = true := decide_eq_true c2
    clear c2
    by_cases c3 : ((l0.length : Int) : Int).toNat ≤ 2932031007402
    · rw [if_pos c3] at H
      have c3b0 := eq_true c3
      have c3b1 : decide (((l0.length : Int) : Int).toNat ≤ 2932031007402) = true := decide_eq_true c3
      clear c3
      obtain ⟨y101, hy101⟩ : ∃ y_ : List (S_impl_Twin), y_ = (List.replicate ((l0.length : Int) : Int).toNat z_impl_Twin) := ⟨_, rfl⟩
      replace H : (laws_toTwinS.l0 k l0 y101 0) = some r := by first | (rw [hy101]; with_reducible exact H) | (have H2_ := (Option.bind_some _ _).symm.trans H; rw [hy101]; with_reducible exact H2_) | (have H2_ := (Option.bind_some _ _).symm.trans H; with_reducible exact H2_) | with_reducible exact H | (rw [hy101]; exact H) | exact H
      have Ny101 := Aside0.mk hy101
      clear hy101
      have H' := Aside0.mk H
      clear H
      go_enter Try.func78, Try.ntmps78
      go_wp2_with (first | ((with_reducible refine gate_dst (N := 7) rfl ?_); refine Kd.S_make k_impl_Twin _ 123 rfl (N := 7) rfl 70 _ _ rfl (l0.length : Int) rfl rfl Try.underlying70 (.agg #[(.int .i64 0), (.int .i64 0), (.int .i64 0), (.int .i64 0), (.slice none 0 0), (.slice none 0 0), (.int .i64 0), (.bool false)]) 96 info123 rfl (by decide) (by omega) z_impl_Twin (ok := fun _ => True) (okp := fun _ => True) (k_impl_Twin_mkM _ _ _ z_impl_Twin (Kd.R_nil _ _ _ _ _) (Kd.R_nil _ _ _ _ _)) (fun _ hk => hk) trivial (of_decide_eq_true (by first | (with_reducible assumption) | assumption)) (Nat.le_trans (Nat.mul_le_mul_right _ (of_decide_eq_true (by first | (with_reducible assumption) | assumption) : (l0.length : Int).toNat ≤ 2932031007402)) (by omega)) (Below.refl _ _) (Nat.le_refl _) ?_; intro v102 w4 ho5 hb hg_ hnew_; clear hg_ hnew_; (first | rw [← Ny101.out] at ho5 | (simp only [Int.reduceToNat] at ho5; rw [← Ny101.out] at ho5)); have n0_ := Aside0.mk (Kd.S_lower ho5 (below_size (bw_))); have n1_ := Aside0.mk (below_step (bw_) hb); clear HB; have HO103 := n0_; have HB := n1_; clear n0_ n1_; clear hb ho5))
      go_loopg [4] k (fun kq v4 w' => ∃ (x3_1 : List (S_impl_Twin)) (x4_1 : Int), v4 = .int .i64 x4_1 ∧ Aside0 (laws_toTwinS.l0 kq l0 x3_1 x4_1 = some r) ∧ Aside0 (kq ≤ k) ∧ Aside0 (Kd.S k_impl_Twin 123 w' w.heap.size (fun _ => True) v102 x3_1) ∧ Aside0 (Below w.heap.size w w'))
      case atStart => exact ⟨(y101), (0), (by first | rfl | (simp; done) | (simp [*]; done)), H', ⟨Nat.le_refl _⟩, ⟨by (with_reducible repeat (first | apply Kd.S_alloc | apply Kd.S_drewN | apply Kd.S_drew)); exact HO103.out⟩, ⟨bw_⟩⟩
      case round =>
        clear H'
        try clear c2
        try clear c2b0
        try clear c2b1
        try clear p2
        try clear c3
        try clear c3b0
        try clear c3b1
        obtain ⟨x3_1, x4_1, rfl, HA, HK1, HO_3, HB⟩ := hrel
        cases gk with
        | zero => exact absurd HA.out (by simp [laws_toTwinS.l0])
        | succ k1 =>
          have H := HA.out
          clear HA
          simp only [laws_toTwinS.l0] at H
          by_cases c6 : x4_1 < (l0.length : Int)
          · rw [if_pos c6] at H
            have c6b0 : decide (x4_1 < (l0.length : Int)) = true := decide_eq_true c6
            clear c6
            by_cases c7 : 0 ≤ x4_1
            · rw [if_pos c7] at H
              have c7b0 : decide (0 ≤ x4_1) = true := decide_eq_true c7
              clear c7
              replace H := Option.bind_eq_some_iff.mp H
              obtain ⟨⟨t105, t106, t107, t108, t109, t112, t115, t116⟩, A80, H⟩ := H
              replace H : (if x4_1 < (x3_1.length : Int) then (laws_toTwinS.l0 k1 l0 (x3_1.set (x4_1 : Int).toNat (⟨t105, t106, (⟨t107, t108, t109, t112, t115, t116⟩ : S_impl_Call)⟩ : S_impl_Twin)) (wrap64 (x4_1 + 1))) else (none)) = some r := H
              have A8 := Aside0.mk A80
              clear A80
              by_cases c9 : x4_1 < (x3_1.length : Int)
              · rw [if_pos c9] at H
                have c9b0 : decide (x4_1 < (x3_1.length : Int)) = true := decide_eq_true c9
                clear c9
                obtain ⟨y117, hy117⟩ : ∃ y_ : List (S_impl_Twin), y_ = (x3_1.set (x4_1 : Int).toNat (⟨t105, t106, (⟨t107, t108, t109, t112, t115, t116⟩ : S_impl_Call)⟩ : S_impl_Twin)) := ⟨_, rfl⟩
                replace H : (laws_toTwinS.l0 k1 l0 y117 (wrap64 (x4_1 + 1))) = some r := by first | (rw [hy117]; with_reducible exact H) | (have H2_ := (Option.bind_some _ _).symm.trans H; rw [hy117]; with_reducible exact H2_) | (have H2_ := (Option.bind_some _ _).symm.trans H; with_reducible exact H2_) | with_reducible exact H | (rw [hy117]; exact H) | exact H
                have Ny117 := Aside0.mk hy117
                clear hy117
                have H' := Aside0.mk H
                clear H
                have p104 : 0 ≤ (x4_1 : Int) := of_decide_eq_true (by first | (with_reducible assumption) | assumption)
                have q104 : x4_1 < (l0.length : Int) := of_decide_eq_true (by first | (with_reducible assumption) | assumption)
                obtain ⟨ad104, A104_4, c104_4, A104_5, c104_5, e104, hx104_0, hx104_1, hx104_2, hx104_3, hx104_4, hx104_5, hx104_6, hx104_7, hl104_4, hi104_4, hl104_5, hi104_5⟩ := at_laws_Twin HR0.out x4_1 p104 q104
                cases e104
                replace hx104_0 := (HB.out.cell (World.block_lt_of_cell? w _ hx104_0)).trans hx104_0
                replace hx104_1 := (HB.out.cell (World.block_lt_of_cell? w _ hx104_1)).trans hx104_1
                replace hx104_2 := (HB.out.cell (World.block_lt_of_cell? w _ hx104_2)).trans hx104_2
                replace hx104_3 := (HB.out.cell (World.block_lt_of_cell? w _ hx104_3)).trans hx104_3
                replace hx104_4 := (HB.out.cell (World.block_lt_of_cell? w _ hx104_4)).trans hx104_4
                replace hx104_5 := (HB.out.cell (World.block_lt_of_cell? w _ hx104_5)).trans hx104_5
                replace hx104_6 := (HB.out.cell (World.block_lt_of_cell? w _ hx104_6)).trans hx104_6
                replace hx104_7 := (HB.out.cell (World.block_lt_of_cell? w _ hx104_7)).trans hx104_7
                have HR104_4 := Aside0.mk hi104_4
                have HC104_4 := Aside0.mk hl104_4
                clear hi104_4 hl104_4
                have HR104_5 := Aside0.mk hi104_5
                have HC104_5 := Aside0.mk hl104_5
                clear hi104_5 hl104_5
                replace p104 := eq_true p104
                replace q104 := eq_true q104
                go_wp2_with (first | ((with_reducible refine gate_callee (f := 101) rfl ?_); refine goesL_ (some 20) rfl rfl Try.func101 (by kernel_rfl) rfl #[.agg #[.int .i64 ((rd_laws_Twin l0 x4_1).f0), .int .i64 ((rd_laws_Twin l0 x4_1).f1), .int .i64 ((rd_laws_Twin l0 x4_1).f2.f0), .int .i64 ((rd_laws_Twin l0 x4_1).f2.f1), .slice A104_4 ((rd_laws_Twin l0 x4_1).f2.f2).length c104_4, .slice A104_5 ((rd_laws_Twin l0 x4_1).f2.f3).length c104_5, .int .i64 ((rd_laws_Twin l0 x4_1).f2.f4), .bool ((rd_laws_Twin l0 x4_1).f2.f5)]] rfl (by (try simp only [List.map_toArray, List.map_cons, List.map_nil]); first | done | rfl | (simp only [List.length_drop, List.length_take]; rfl)) ?_; (with_reducible refine (laws_toTwin.calls k1 ((rd_laws_Twin l0 x4_1).f0) ((rd_laws_Twin l0 x4_1).f1) ((rd_laws_Twin l0 x4_1).f2.f0) ((rd_laws_Twin l0 x4_1).f2.f1) _ _ ((rd_laws_Twin l0 x4_1).f2.f2) _ _ ((rd_laws_Twin l0 x4_1).f2.f3) ((rd_laws_Twin l0 x4_1).f2.f4) ((rd_laws_Twin l0 x4_1).f2.f5) t105 t106 t107 t108 t109 t112 t115 t116 _ ?side1 ?side2 ?side3 ?side4 A8.out).mono ?_); (case side1 => exact cb_); (case side2 => exact HC104_4.out); (case side3 => exact cb_); (case side4 => exact HC104_5.out); rintro e w11 ⟨v110, v113, rfl, ho0, ho1, hb⟩; refine ⟨_, rfl, ?_⟩; have n0_ := Aside0.mk (Kd.S_mono (Kd.S_told (Kd.S_told (Kd.S_old (by (with_reducible repeat (first | apply Kd.S_alloc | apply Kd.S_drewN | apply Kd.S_drew)); exact HO_3.out) hb) (Kd.R_base ho0)) (Kd.R_base ho1)) (fun _ h_ => h_.1)); have n1_ := Aside0.mk (Kd.R_lower ho0 (below_size (bw_))); have n2_ := Aside0.mk (Kd.R_lower ho1 (below_size (bw_))); have n3_ := Aside0.mk (below_step (bw_) hb); clear HO_3; clear HB; have HO_3 := n0_; have HO111 := n1_; have HO114 := n2_; have HB := n3_; clear n0_ n1_ n2_ n3_; (try clear hb); (try clear hb2); (try clear hk); (try clear hi); (try clear ho0); (try clear ho1); have p10 : 0 ≤ (x4_1 : Int) := of_decide_eq_true (by first | (with_reducible assumption) | assumption); have q10 : (x4_1 : Int) < ((x3_1.length : Int) : Int) := of_decide_eq_true (by first | (with_reducible assumption) | assumption); obtain ⟨go10, co10, eo10, gb10, gl10, cl10, HG10⟩ := Kd.S_form HO_3.out (by omega); (first | cases eo10 | (injection eo10 with ea_ en_ ec_; (first | subst ea_ | (injection ea_ with ea_; subst ea_)); subst ec_; clear en_)); have GB10 := Aside0.mk gb10; have GG10 := Aside0.mk HG10; clear gb10 gl10 HG10; obtain ⟨_, ce10, hcl10, hM10, hcc10, hfr10, _, _⟩ := Kd.S_elem HO_3.out z_impl_Twin (x4_1 : Int) p10 q10; obtain ⟨ve10_4, ve10_5, rfl, ge10_4, ge10_5⟩ := k_impl_Twin_openM hM10; have hx10_0 : w11.cell? ⟨go10, (x4_1 : Int).toNat * 8, none⟩ = some (.int .i64 ((rd_impl_Twin x3_1 x4_1).f0)) := hcc10 0 _ rfl; have hx10_1 : w11.cell? ⟨go10, (x4_1 : Int).toNat * 8 + 1, none⟩ = some (.int .i64 ((rd_impl_Twin x3_1 x4_1).f1)) := hcc10 1 _ rfl; have hx10_2 : w11.cell? ⟨go10, (x4_1 : Int).toNat * 8 + 2, none⟩ = some (.int .i64 ((rd_impl_Twin x3_1 x4_1).f2.f0)) := hcc10 2 _ rfl; have hx10_3 : w11.cell? ⟨go10, (x4_1 : Int).toNat * 8 + 3, none⟩ = some (.int .i64 ((rd_impl_Twin x3_1 x4_1).f2.f1)) := hcc10 3 _ rfl; have hx10_4 : w11.cell? ⟨go10, (x4_1 : Int).toNat * 8 + 4, none⟩ = some (ve10_4) := hcc10 4 _ rfl; have hx10_5 : w11.cell? ⟨go10, (x4_1 : Int).toNat * 8 + 5, none⟩ = some (ve10_5) := hcc10 5 _ rfl; have hx10_6 : w11.cell? ⟨go10, (x4_1 : Int).toNat * 8 + 6, none⟩ = some (.int .i64 ((rd_impl_Twin x3_1 x4_1).f2.f4)) := hcc10 6 _ rfl; have hx10_7 : w11.cell? ⟨go10, (x4_1 : Int).toNat * 8 + 7, none⟩ = some (.bool ((rd_impl_Twin x3_1 x4_1).f2.f5)) := hcc10 7 _ rfl; have hf10_0 : w11.frozen? ⟨go10, (x4_1 : Int).toNat * 8, none⟩ = false := hfr10 0; have hf10_1 : w11.frozen? ⟨go10, (x4_1 : Int).toNat * 8 + 1, none⟩ = false := hfr10 1; have hf10_2 : w11.frozen? ⟨go10, (x4_1 : Int).toNat * 8 + 2, none⟩ = false := hfr10 2; have hf10_3 : w11.frozen? ⟨go10, (x4_1 : Int).toNat * 8 + 3, none⟩ = false := hfr10 3; have hf10_4 : w11.frozen? ⟨go10, (x4_1 : Int).toNat * 8 + 4, none⟩ = false := hfr10 4; have hf10_5 : w11.frozen? ⟨go10, (x4_1 : Int).toNat * 8 + 5, none⟩ = false := hfr10 5; have hf10_6 : w11.frozen? ⟨go10, (x4_1 : Int).toNat * 8 + 6, none⟩ = false := hfr10 6; have hf10_7 : w11.frozen? ⟨go10, (x4_1 : Int).toNat * 8 + 7, none⟩ = false := hfr10 7; clear hcl10 hcc10 hfr10 hM10; replace p10 := eq_true p10; replace q10 := eq_true q10; have n_ := Aside0.mk (Kd.S_mono (ok' := (fun k_ => some k_ ≠ (v110 : Value).ownBlock ∧ some k_ ≠ (v113 : Value).ownBlock)) HO_3.out (fun k_ hk => ⟨hk.1.2, hk.2⟩)); clear HO_3; have HO_3 := n_; clear n_; have HX12 := Aside0.mk (show Kd.S k_impl_Twin 123 w11 w.heap.size (fun k_ => ((fun _ => True)) k_ ∧ ¬ ((fun k_ => some k_ = (v110 : Value).ownBlock ∨ some k_ = (v113 : Value).ownBlock)) k_) (.slice (some ⟨go10, 0, none⟩) x3_1.length co10) x3_1 from (by (with_reducible repeat (first | apply Kd.S_alloc | apply Kd.S_drewN | apply Kd.S_drew)); exact Kd.S_mono HO_3.out (fun k_ hk => ⟨trivial, fun e_ => e_.elim (fun h_ => hk.1 h_) (fun h_ => hk.2 h_)⟩))); obtain ⟨oki12, ce12, hcl12, hM12, hcc12, hfr12, hoki12, hH12⟩ := Kd.S_elem HX12.out z_impl_Twin (x4_1 : Int) (of_decide_eq_true (by first | (with_reducible assumption) | assumption)) (by have h_ : (x4_1 : Int) < ((x3_1.length : Int) : Int) := of_decide_eq_true (by first | (with_reducible assumption) | assumption); first | exact h_ | (have e_ := (Kd.S_reads' HO_3.out).1; omega) | simpa using h_); obtain ⟨ve12_4, ve12_5, rfl, ge12_4, ge12_5⟩ := k_impl_Twin_openM hM12; have HP12 := Kd.S_seg hH12 (of_decide_eq_true (by first | (with_reducible assumption) | assumption)) (by have h_ : (x4_1 : Int) < ((x3_1.length : Int) : Int) := of_decide_eq_true (by first | (with_reducible assumption) | assumption); first | exact h_ | (have e_ := (Kd.S_reads' HO_3.out).1; omega) | simpa using h_) (seg := [.int .i64 t105, .int .i64 t106, .int .i64 t107, .int .i64 t108, v110, v113, .int .i64 t115, .bool t116]) (j := 0) (show 8 ≤ 8 from by decide) (x' := (⟨t105, t106, (⟨t107, t108, t109, t112, t115, t116⟩ : S_impl_Call)⟩ : S_impl_Twin)) (k_impl_Twin_mkM _ _ _ (⟨t105, t106, (⟨t107, t108, t109, t112, t115, t116⟩ : S_impl_Call)⟩ : S_impl_Twin) (Kd.R_mono (Kd.R_tight rfl (Kd.R_mono (ok' := fun k_ => ((fun _ => True)) k_ ∧ k_ ≠ go10) (Kd.R_apart' (HO111.out) (Kd.S_typed HO_3.out) (by decide)) (fun k_ hk => ⟨trivial, fun e_ => (hk.2) (by rw [e_]; rfl)⟩))) (fun _ h_ => Or.inr (Or.inl h_))) (Kd.R_mono (Kd.R_tight rfl (Kd.R_mono (ok' := fun k_ => ((fun _ => True)) k_ ∧ k_ ≠ go10) (Kd.R_apart' (HO114.out) (Kd.S_typed HO_3.out) (by decide)) (fun k_ hk => ⟨trivial, fun e_ => (hk.2) (by rw [e_]; rfl)⟩))) (fun _ h_ => Or.inr (Or.inr (h_))))) (fun _ hk => hk) (fun k_ hk_ => hk_.elim (fun h_ => ((Kd.R_mono (ok' := fun k_ => ((fun _ => True)) k_ ∧ k_ ≠ go10) (Kd.R_apart' (HO111.out) (Kd.S_typed HO_3.out) (by decide)) (fun k_ hk => ⟨trivial, fun e_ => (hk.2) (by rw [e_]; rfl)⟩))).1 k_ h_.symm) (fun h_ => ((Kd.R_mono (ok' := fun k_ => ((fun _ => True)) k_ ∧ k_ ≠ go10) (Kd.R_apart' (HO114.out) (Kd.S_typed HO_3.out) (by decide)) (fun k_ hk => ⟨trivial, fun e_ => (hk.2) (by rw [e_]; rfl)⟩))).1 k_ h_.symm)); have hx12_0 := hcc12 0 _ rfl; (try simp only [show (k_impl_Twin).sz = 8 from rfl, Nat.mul_one, Nat.add_zero] at hx12_0); have hf12_0 := hfr12 0; (try simp only [show (k_impl_Twin).sz = 8 from rfl, Nat.mul_one, Nat.add_zero] at hf12_0); have hx12_1 := hcc12 1 _ rfl; (try simp only [show (k_impl_Twin).sz = 8 from rfl, Nat.mul_one, Nat.add_zero] at hx12_1); have hf12_1 := hfr12 1; (try simp only [show (k_impl_Twin).sz = 8 from rfl, Nat.mul_one, Nat.add_zero] at hf12_1); have hx12_2 := hcc12 2 _ rfl; (try simp only [show (k_impl_Twin).sz = 8 from rfl, Nat.mul_one, Nat.add_zero] at hx12_2); have hf12_2 := hfr12 2; (try simp only [show (k_impl_Twin).sz = 8 from rfl, Nat.mul_one, Nat.add_zero] at hf12_2); have hx12_3 := hcc12 3 _ rfl; (try simp only [show (k_impl_Twin).sz = 8 from rfl, Nat.mul_one, Nat.add_zero] at hx12_3); have hf12_3 := hfr12 3; (try simp only [show (k_impl_Twin).sz = 8 from rfl, Nat.mul_one, Nat.add_zero] at hf12_3); have hx12_4 := hcc12 4 _ rfl; (try simp only [show (k_impl_Twin).sz = 8 from rfl, Nat.mul_one, Nat.add_zero] at hx12_4); have hf12_4 := hfr12 4; (try simp only [show (k_impl_Twin).sz = 8 from rfl, Nat.mul_one, Nat.add_zero] at hf12_4); have hx12_5 := hcc12 5 _ rfl; (try simp only [show (k_impl_Twin).sz = 8 from rfl, Nat.mul_one, Nat.add_zero] at hx12_5); have hf12_5 := hfr12 5; (try simp only [show (k_impl_Twin).sz = 8 from rfl, Nat.mul_one, Nat.add_zero] at hf12_5); have hx12_6 := hcc12 6 _ rfl; (try simp only [show (k_impl_Twin).sz = 8 from rfl, Nat.mul_one, Nat.add_zero] at hx12_6); have hf12_6 := hfr12 6; (try simp only [show (k_impl_Twin).sz = 8 from rfl, Nat.mul_one, Nat.add_zero] at hf12_6); have hx12_7 := hcc12 7 _ rfl; (try simp only [show (k_impl_Twin).sz = 8 from rfl, Nat.mul_one, Nat.add_zero] at hx12_7); have hf12_7 := hfr12 7; (try simp only [show (k_impl_Twin).sz = 8 from rfl, Nat.mul_one, Nat.add_zero] at hf12_7); clear hcl12 hcc12 hfr12 hM12 hoki12 hH12) | ((with_reducible refine gate_store (t := 123) (p := 21) rfl ?_); refine store_event (t := 123) (p := 21) (v := ?vo_w13) (w1 := ((((((((w11.setCell ⟨go10, (x4_1 : Int).toNat * 8, none⟩ (.int .i64 t105)).setCell ⟨go10, (x4_1 : Int).toNat * 8 + 1, none⟩ (.int .i64 t106)).setCell ⟨go10, (x4_1 : Int).toNat * 8 + 2, none⟩ (.int .i64 t107)).setCell ⟨go10, (x4_1 : Int).toNat * 8 + 3, none⟩ (.int .i64 t108)).setCell ⟨go10, (x4_1 : Int).toNat * 8 + 4, none⟩ (v110)).setCell ⟨go10, (x4_1 : Int).toNat * 8 + 5, none⟩ (v113)).setCell ⟨go10, (x4_1 : Int).toNat * 8 + 6, none⟩ (.int .i64 t115)).setCell ⟨go10, (x4_1 : Int).toNat * 8 + 7, none⟩ (.bool t116))) ?hg ?ho ?hn ?hr ?_; (case ho => rfl); (case hg => rfl); (case hn => rfl); (case hr => (try (obtain ⟨A_, c_, e_⟩ := Kd.R_slice HO111.out; subst e_)); (try (obtain ⟨A_, c_, e_⟩ := Kd.R_slice HO114.out; subst e_)); first | (go_simp; done) | (go_simp; rfl)); intro w13 hw; have hg : w11.grownBy w13 (some go10) := (by rw [hw]; exact HP12.2); have hp_ : Kd.S k_impl_Twin 123 w13 w.heap.size (fun _ => True) (.slice (some ⟨go10, 0, none⟩) x3_1.length co10) y117 := (by rw [hw, Ny117.out]; exact HP12.1); clear HP12; have n0_ := Aside0.mk (hp_); have n1_ := Aside0.mk ((by rw [hw]; exact below_set (below_set (below_set (below_set (below_set (below_set (below_set (below_set (HB.out) GB10.out) GB10.out) GB10.out) GB10.out) GB10.out) GB10.out) GB10.out) GB10.out : Below w.heap.size w w13)); clear HO_3; clear HB; clear HO111; clear HO114; have HO_3 := n0_; have HB := n1_; clear n0_ n1_; clear hg hw hp_))
                go_roundg k1
                case measure => have := HK1.out; omega
                case rel => exact ⟨(y117), (wrap64 (x4_1 + 1)), (by first | rfl | (simp; done) | (simp [*]; done)), H', ⟨by have := HK1.out; omega⟩, ⟨by (with_reducible repeat (first | apply Kd.S_alloc | apply Kd.S_drewN | apply Kd.S_drew)); exact HO_3.out⟩, ⟨bw_⟩⟩
              · rw [if_neg c9] at H
                exact absurd H (by simp)
            · rw [if_neg c7] at H
              exact absurd H (by simp)
          · rw [if_neg c6] at H
            have c6b0 : decide (x4_1 < (l0.length : Int)) = false := decide_eq_false c6
            clear c6
            obtain rfl := Option.some.inj H
            go_wp2
            go_ret
            exact ⟨_, by first | rfl | (simp [errW_none, errW_some] <;> rfl) | (simp [*, errW_none, errW_some] <;> rfl), by (with_reducible repeat (first | apply Kd.S_alloc | apply Kd.S_drewN | apply Kd.S_drew)); exact HO_3.out, bw_⟩
    · rw [if_neg c3] at H
      exact absurd H (by simp)
  · rw [if_neg c2] at H
    exact absurd H (by simp)
end Go.Proofs.Ytcllkemhlhbdgaa.G
namespace Go.Proofs.Ytcllkemhlhbdgaa.G
open Go.RowKit Go.Proofs.YtcllkemhlhbdgaaW.PrintWords Go.Proofs.YtcllkemhlhbdgaaW.PrintLast Go.Proofs.YtcllkemhlhbdgaaW.PrintMore
attribute [local go_sem] max2_int min2_int max_two min_two max_three min_three max_four min_four
set_option linter.unusedVariables false
set_option linter.unusedSimpArgs false
def laws_toMach.f (k : Nat) (a0_0 : Int) (l0_1 : List (S_laws_Page)) (l0_2 : List Int) (a0_3 : Int) (l0_4 : List (S_laws_Twin)) (a0_5 : Int) (l0_6 : List (S_laws_Val)) (a0_7 : Int) : Option (Int × (List (S_impl_Page)) × List Int × Int × (List (S_impl_Twin)) × Int × (List (S_impl_Val)) × Int) := (laws_toPageS.f k l0_1).bind fun t104 => ((laws_toIntS.f k l0_2).bind fun t107 => ((laws_toTwinS.f k l0_4).bind fun t110 => ((laws_toValS.f k l0_6).bind fun t113 => (some (a0_0, t104, t107, a0_3, t110, a0_5, t113, a0_7)))))
theorem laws_toMach.mono : ∀ a0 a1 a2 a3 a4 a5 a6 a7 k, LeO (laws_toMach.f k a0 a1 a2 a3 a4 a5 a6 a7) (laws_toMach.f (k + 1) a0 a1 a2 a3 a4 a5 a6 a7) := by
  intro a0 a1 a2 a3 a4 a5 a6 a7 k
  unfold laws_toMach.f
  repeat' first
      | (with_reducible exact laws_toIntS.mono _ _)
      | (with_reducible exact laws_toPageS.mono _ _)
      | (with_reducible exact laws_toTwinS.mono _ _)
      | (with_reducible exact laws_toValS.mono _ _)
      | (with_reducible exact LeO.refl _)
      | (with_reducible exact LeO.none _)
      | (with_reducible refine LeO.ite ?_ ?_)
      | (with_reducible refine LeO.bind ?_ (fun _ => ?_))
      | exact laws_toIntS.mono _ _
      | exact laws_toPageS.mono _ _
      | exact laws_toTwinS.mono _ _
      | exact laws_toValS.mono _ _
      | exact LeO.none _
      | refine LeO.ite ?_ ?_
      | refine LeO.bind ?_ (fun _ => ?_)
set_option maxHeartbeats 8000000 in
set_option maxRecDepth 100000 in
theorem laws_toMach.calls (k : Nat) (a0_0 : Int) (A0_1 : Option Addr) (c0_1 : Nat) (l0_1 : List (S_laws_Page)) (A0_2 : Option Addr) (c0_2 : Nat) (l0_2 : List Int) (a0_3 : Int) (A0_4 : Option Addr) (c0_4 : Nat) (l0_4 : List (S_laws_Twin)) (a0_5 : Int) (A0_6 : Option Addr) (c0_6 : Nat) (l0_6 : List (S_laws_Val)) (a0_7 : Int) (r1 : Int) (r2 : List (S_impl_Page)) (r3 : List Int) (r4 : Int) (r5 : List (S_impl_Twin)) (r6 : Int) (r7 : List (S_impl_Val)) (r8 : Int) (w : World) (hr0_1 : Kd.C k_laws_Page w A0_1 l0_1.length l0_1) (hc0_1 : l0_1.length ≤ c0_1) (hr0_2 : Kd.C (Kd.int .i64) w A0_2 l0_2.length l0_2) (hc0_2 : l0_2.length ≤ c0_2) (hr0_4 : Kd.C k_laws_Twin w A0_4 l0_4.length l0_4) (hc0_4 : l0_4.length ≤ c0_4) (hr0_6 : Kd.C k_laws_Val w A0_6 l0_6.length l0_6) (hc0_6 : l0_6.length ≤ c0_6) (h : laws_toMach.f k a0_0 l0_1 l0_2 a0_3 l0_4 a0_5 l0_6 a0_7 = some (r1, r2, r3, r4, r5, r6, r7, r8)) :
    Calls Try.prog 32 #[.agg #[.int .i64 a0_0, .slice A0_1 l0_1.length c0_1, .slice A0_2 l0_2.length c0_2, .int .i64 a0_3, .slice A0_4 l0_4.length c0_4, .int .i64 a0_5, .slice A0_6 l0_6.length c0_6, .int .i64 a0_7]] w fun e w' => ∃ v1_ v2_ v4_ v6_ : Value, e = .returned (.agg #[.int .i64 r1, v1_, v2_, .int .i64 r4, v4_, .int .i64 r6, v6_, .int .i64 r8]) ∧ Kd.R k_impl_Page 116 w' w.heap.size (fun k_ => some k_ ≠ (v6_ : Value).ownBlock) v1_ r2 ∧ Kd.R (Kd.int .i64) 3 w' w.heap.size (fun _ => True) v2_ r3 ∧ Kd.S k_impl_Twin 123 w' w.heap.size (fun k_ => some k_ ≠ (v6_ : Value).ownBlock) v4_ r5 ∧ Kd.R k_impl_Val 134 w' w.heap.size (fun _ => True) v6_ r7 ∧ Below w.heap.size w w' := by
  have hu66 := Try.underlying66
  have hu72 := Try.underlying72
  have HR0_1 := Aside0.mk hr0_1
  have HC0_1 := Aside0.mk hc0_1
  clear hr0_1 hc0_1
  have HR0_2 := Aside0.mk hr0_2
  have HC0_2 := Aside0.mk hc0_2
  clear hr0_2 hc0_2
  have HR0_4 := Aside0.mk hr0_4
  have HC0_4 := Aside0.mk hc0_4
  clear hr0_4 hc0_4
  have HR0_6 := Aside0.mk hr0_6
  have HC0_6 := Aside0.mk hc0_6
  clear hr0_6 hc0_6
  have HB := Aside0.mk (Below.refl w.heap.size w)
  have H : ((laws_toPageS.f k l0_1).bind fun t104 => ((laws_toIntS.f k l0_2).bind fun t107 => ((laws_toTwinS.f k l0_4).bind fun t110 => ((laws_toValS.f k l0_6).bind fun t113 => (some (a0_0, t104, t107, a0_3, t110, a0_5, t113, a0_7)))))) = some (r1, r2, r3, r4, r5, r6, r7, r8) := h
  clear h
  replace H := Option.bind_eq_some_iff.mp H
  obtain ⟨t104, A20, H⟩ := H
  replace H : ((laws_toIntS.f k l0_2).bind fun t107 => ((laws_toTwinS.f k l0_4).bind fun t110 => ((laws_toValS.f k l0_6).bind fun t113 => (some (a0_0, t104, t107, a0_3, t110, a0_5, t113, a0_7))))) = some (r1, r2, r3, r4, r5, r6, r7, r8) := H
  have A2 := Aside0.mk A20
  clear A20
  replace H := Option.bind_eq_some_iff.mp H
  obtain ⟨t107, A30, H⟩ := H
  replace H : ((laws_toTwinS.f k l0_4).bind fun t110 => ((laws_toValS.f k l0_6).bind fun t113 => (some (a0_0, t104, t107, a0_3, t110, a0_5, t113, a0_7)))) = some (r1, r2, r3, r4, r5, r6, r7, r8) := H
  have A3 := Aside0.mk A30
  clear A30
  replace H := Option.bind_eq_some_iff.mp H
  obtain ⟨t110, A40, H⟩ := H
  replace H : ((laws_toValS.f k l0_6).bind fun t113 => (some (a0_0, t104, t107, a0_3, t110, a0_5, t113, a0_7))) = some (r1, r2, r3, r4, r5, r6, r7, r8) := H
  have A4 := Aside0.mk A40
  clear A40
  replace H := Option.bind_eq_some_iff.mp H
  obtain ⟨t113, A50, H⟩ := H
  replace H : (some (a0_0, t104, t107, a0_3, t110, a0_5, t113, a0_7)) = some (r1, r2, r3, r4, r5, r6, r7, r8) := H
  have A5 := Aside0.mk A50
  clear A50
  simp only [Option.some.injEq, Prod.mk.injEq] at H
  obtain ⟨rfl, rfl, rfl, rfl, rfl, rfl, rfl, rfl⟩ := H
  go_enter Try.func32, Try.ntmps32
  go_wp2_with (first | ((with_reducible refine gate_dst (N := 1) rfl ?_); refine box_event ?hg (N := 1) ?hd (cs := #[.int .i64 a0_0, .slice A0_1 l0_1.length c0_1, .slice A0_2 l0_2.length c0_2, .int .i64 a0_3, .slice A0_4 l0_4.length c0_4, .int .i64 a0_5, .slice A0_6 l0_6.length c0_6, .int .i64 a0_7]) (t := 66) ?hr ?_; (case hd => rfl); (case hg => rfl); (case hr => first | (go_simp; done) | (go_simp; rfl)); intro gb101 hg w6 hbox hb; have n0_ := Aside0.mk (below_step (bw_) hb); have n1_ := Aside0.mk (hbox); have n2_ := Aside0.mk ((by rw [hg]; exact (below_size (bw_)) : w.heap.size ≤ gb101)); have n3_ := Aside0.mk ((by rw [hg]; exact (below_size (bw_)) : w.heap.size ≤ gb101)); clear HB; have HB := n0_; have BK101 := n1_; have GW101 := n2_; have GE101 := n3_; clear n0_ n1_ n2_ n3_; clear hb hbox hg) | ((with_reducible refine gate_dst (N := 2) rfl ?_); refine box_event ?hg (N := 2) ?hd (cs := #[.int .i64 0, .slice none 0 0, .slice none 0 0, .int .i64 0, .slice none 0 0, .int .i64 0, .slice none 0 0, .int .i64 0]) (t := 72) ?hr ?_; (case hd => rfl); (case hg => rfl); (case hr => first | (go_simp; done) | (go_simp; rfl)); intro gb102 hg w7 hbox hb; have n0_ := Aside0.mk (blk_below (g := gb101) (o := .cells #[.int .i64 a0_0, .slice A0_1 l0_1.length c0_1, .slice A0_2 l0_2.length c0_2, .int .i64 a0_3, .slice A0_4 l0_4.length c0_4, .int .i64 a0_5, .slice A0_6 l0_6.length c0_6, .int .i64 a0_7] 66 (0, 0)) (by (with_reducible repeat (first | refine blk_drewN ?_ _ | refine blk_drew ?_ | refine blk_alloc ?_ _)); exact BK101.out) hb); have n1_ := Aside0.mk (below_step (bw_) hb); have n2_ := Aside0.mk (hbox); have n3_ := Aside0.mk ((by rw [hg]; exact (below_size (bw_)) : w.heap.size ≤ gb102)); have n4_ := Aside0.mk ((by rw [hg]; exact (below_size (bw_)) : w.heap.size ≤ gb102)); have n5_ := Aside0.mk ((by rw [hg]; exact Nat.ne_of_lt (blk_lt (g := gb101) (o := .cells #[.int .i64 a0_0, .slice A0_1 l0_1.length c0_1, .slice A0_2 l0_2.length c0_2, .int .i64 a0_3, .slice A0_4 l0_4.length c0_4, .int .i64 a0_5, .slice A0_6 l0_6.length c0_6, .int .i64 a0_7] 66 (0, 0)) (by (with_reducible repeat (first | refine blk_drewN ?_ _ | refine blk_drew ?_ | refine blk_alloc ?_ _)); exact BK101.out)) : gb101 ≠ gb102)); have n6_ := Aside0.mk ((by rw [hg]; exact Nat.ne_of_gt (blk_lt (g := gb101) (o := .cells #[.int .i64 a0_0, .slice A0_1 l0_1.length c0_1, .slice A0_2 l0_2.length c0_2, .int .i64 a0_3, .slice A0_4 l0_4.length c0_4, .int .i64 a0_5, .slice A0_6 l0_6.length c0_6, .int .i64 a0_7] 66 (0, 0)) (by (with_reducible repeat (first | refine blk_drewN ?_ _ | refine blk_drew ?_ | refine blk_alloc ?_ _)); exact BK101.out)) : gb102 ≠ gb101)); clear BK101; clear HB; have BK101 := n0_; have HB := n1_; have BK102 := n2_; have GW102 := n3_; have GE102 := n4_; have NB101_102 := n5_; have NB102_101 := n6_; clear n0_ n1_ n2_ n3_ n4_ n5_ n6_; clear hb hbox hg) | ((with_reducible refine gate_dst (N := 3) rfl ?_); refine box_event ?hg (N := 3) ?hd (cs := #[.int .i64 0, .slice none 0 0, .slice none 0 0, .int .i64 0, .slice none 0 0, .int .i64 0, .slice none 0 0, .int .i64 0]) (t := 72) ?hr ?_; (case hd => rfl); (case hg => rfl); (case hr => first | (go_simp; done) | (go_simp; rfl)); intro gb103 hg w8 hbox hb; have n0_ := Aside0.mk (blk_below (g := gb101) (o := .cells #[.int .i64 a0_0, .slice A0_1 l0_1.length c0_1, .slice A0_2 l0_2.length c0_2, .int .i64 a0_3, .slice A0_4 l0_4.length c0_4, .int .i64 a0_5, .slice A0_6 l0_6.length c0_6, .int .i64 a0_7] 66 (0, 0)) (by (with_reducible repeat (first | refine blk_drewN ?_ _ | refine blk_drew ?_ | refine blk_alloc ?_ _)); exact BK101.out) hb); have n1_ := Aside0.mk (blk_below (g := gb102) (o := .cells #[.int .i64 0, .slice none 0 0, .slice none 0 0, .int .i64 0, .slice none 0 0, .int .i64 0, .slice none 0 0, .int .i64 0] 72 (0, 0)) (by (with_reducible repeat (first | refine blk_drewN ?_ _ | refine blk_drew ?_ | refine blk_alloc ?_ _)); exact BK102.out) hb); have n2_ := Aside0.mk (below_step (bw_) hb); have n3_ := Aside0.mk (hbox); have n4_ := Aside0.mk ((by rw [hg]; exact (below_size (bw_)) : w.heap.size ≤ gb103)); have n5_ := Aside0.mk ((by rw [hg]; exact (below_size (bw_)) : w.heap.size ≤ gb103)); have n6_ := Aside0.mk ((by rw [hg]; exact Nat.ne_of_lt (blk_lt (g := gb101) (o := .cells #[.int .i64 a0_0, .slice A0_1 l0_1.length c0_1, .slice A0_2 l0_2.length c0_2, .int .i64 a0_3, .slice A0_4 l0_4.length c0_4, .int .i64 a0_5, .slice A0_6 l0_6.length c0_6, .int .i64 a0_7] 66 (0, 0)) (by (with_reducible repeat (first | refine blk_drewN ?_ _ | refine blk_drew ?_ | refine blk_alloc ?_ _)); exact BK101.out)) : gb101 ≠ gb103)); have n7_ := Aside0.mk ((by rw [hg]; exact Nat.ne_of_gt (blk_lt (g := gb101) (o := .cells #[.int .i64 a0_0, .slice A0_1 l0_1.length c0_1, .slice A0_2 l0_2.length c0_2, .int .i64 a0_3, .slice A0_4 l0_4.length c0_4, .int .i64 a0_5, .slice A0_6 l0_6.length c0_6, .int .i64 a0_7] 66 (0, 0)) (by (with_reducible repeat (first | refine blk_drewN ?_ _ | refine blk_drew ?_ | refine blk_alloc ?_ _)); exact BK101.out)) : gb103 ≠ gb101)); have n8_ := Aside0.mk ((by rw [hg]; exact Nat.ne_of_lt (blk_lt (g := gb102) (o := .cells #[.int .i64 0, .slice none 0 0, .slice none 0 0, .int .i64 0, .slice none 0 0, .int .i64 0, .slice none 0 0, .int .i64 0] 72 (0, 0)) (by (with_reducible repeat (first | refine blk_drewN ?_ _ | refine blk_drew ?_ | refine blk_alloc ?_ _)); exact BK102.out)) : gb102 ≠ gb103)); have n9_ := Aside0.mk ((by rw [hg]; exact Nat.ne_of_gt (blk_lt (g := gb102) (o := .cells #[.int .i64 0, .slice none 0 0, .slice none 0 0, .int .i64 0, .slice none 0 0, .int .i64 0, .slice none 0 0, .int .i64 0] 72 (0, 0)) (by (with_reducible repeat (first | refine blk_drewN ?_ _ | refine blk_drew ?_ | refine blk_alloc ?_ _)); exact BK102.out)) : gb103 ≠ gb102)); clear BK101; clear BK102; clear HB; have BK101 := n0_; have BK102 := n1_; have HB := n2_; have BK103 := n3_; have GW103 := n4_; have GE103 := n5_; have NB101_103 := n6_; have NB103_101 := n7_; have NB102_103 := n8_; have NB103_102 := n9_; clear n0_ n1_ n2_ n3_ n4_ n5_ n6_ n7_ n8_ n9_; clear hb hbox hg; have hnb9 := NB101_102.out; have hnc9 := NB102_101.out; have hnb10 := NB101_103.out; have hnc10 := NB103_101.out; obtain ⟨hcz11_0, hcz11_1, hcz11_2, hcz11_3, hcz11_4, hcz11_5, hcz11_6, hcz11_7, hfz11_0, hfz11_1, hfz11_2, hfz11_3, hfz11_4, hfz11_5, hfz11_6, hfz11_7⟩ := blkF8_ BK101.out; have hnb12 := NB103_102.out; have hnc12 := NB102_103.out; obtain ⟨hcz13_0, hcz13_1, hcz13_2, hcz13_3, hcz13_4, hcz13_5, hcz13_6, hcz13_7, hfz13_0, hfz13_1, hfz13_2, hfz13_3, hfz13_4, hfz13_5, hfz13_6, hfz13_7⟩ := blkF8_ BK103.out) | ((with_reducible refine gate_callee (f := 76) rfl ?_); refine goesL_ (some 9) rfl rfl Try.func76 (by kernel_rfl) rfl #[.slice A0_1 l0_1.length c0_1] rfl (by (try simp only [List.map_toArray, List.map_cons, List.map_nil]); first | done | rfl | (simp only [List.length_drop, List.length_take]; rfl)) ?_; (with_reducible refine (laws_toPageS.calls k _ _ l0_1 t104 _ ?side1 ?side2 A2.out).mono ?_); (case side1 => exact Kd.C_below HR0_1.out (bw_)); (case side2 => exact HC0_1.out); rintro e w14 ⟨v105, rfl, ho0, hb⟩; refine ⟨_, rfl, ?_⟩; have n0_ := Aside0.mk (Kd.R_lower ho0 (below_size (bw_))); have n1_ := Aside0.mk (blk_below (g := gb101) (o := .cells #[.int .i64 a0_0, .slice A0_1 l0_1.length c0_1, .slice A0_2 l0_2.length c0_2, .int .i64 a0_3, .slice A0_4 l0_4.length c0_4, .int .i64 a0_5, .slice A0_6 l0_6.length c0_6, .int .i64 a0_7] 66 (0, 0)) (by (with_reducible repeat (first | refine blk_drewN ?_ _ | refine blk_drew ?_ | refine blk_alloc ?_ _)); refine blk_far ?_ NB101_103.out _; (with_reducible repeat (first | refine blk_drewN ?_ _ | refine blk_drew ?_ | refine blk_alloc ?_ _)); exact BK101.out) hb); have n2_ := Aside0.mk (blk_below (g := gb102) (o := .cells #[.int .i64 0, .slice none 0 0, .slice none 0 0, .int .i64 0, .slice none 0 0, .int .i64 0, .slice none 0 0, .int .i64 0] 72 (0, 0)) (by (with_reducible repeat (first | refine blk_drewN ?_ _ | refine blk_drew ?_ | refine blk_alloc ?_ _)); refine blk_far ?_ NB102_103.out _; (with_reducible repeat (first | refine blk_drewN ?_ _ | refine blk_drew ?_ | refine blk_alloc ?_ _)); exact BK102.out) hb); have n3_ := Aside0.mk (blk_below (g := gb103) (o := .cells #[.int .i64 a0_0, .slice none 0 0, .slice none 0 0, .int .i64 0, .slice none 0 0, .int .i64 0, .slice none 0 0, .int .i64 0] 72 (0, 0)) (by (with_reducible repeat (first | refine blk_drewN ?_ _ | refine blk_drew ?_ | refine blk_alloc ?_ _)); refine blk_put (cs := #[.int .i64 0, .slice none 0 0, .slice none 0 0, .int .i64 0, .slice none 0 0, .int .i64 0, .slice none 0 0, .int .i64 0]) ?_ 0 _ rfl; (with_reducible repeat (first | refine blk_drewN ?_ _ | refine blk_drew ?_ | refine blk_alloc ?_ _)); exact BK103.out) hb); have n4_ := Aside0.mk (below_step (bw_) hb); clear BK101; clear BK102; clear BK103; clear HB; have HO106 := n0_; have BK101 := n1_; have BK102 := n2_; have BK103 := n3_; have HB := n4_; clear n0_ n1_ n2_ n3_ n4_; (try clear hb); (try clear hb2); (try clear hk); (try clear hi); (try clear ho0); obtain ⟨Ao15, co15, eo15⟩ := Kd.R_slice HO106.out; subst eo15; obtain ⟨hcz16_0, hcz16_1, hcz16_2, hcz16_3, hcz16_4, hcz16_5, hcz16_6, hcz16_7, hfz16_0, hfz16_1, hfz16_2, hfz16_3, hfz16_4, hfz16_5, hfz16_6, hfz16_7⟩ := blkF8_ BK103.out; obtain ⟨hcz17_0, hcz17_1, hcz17_2, hcz17_3, hcz17_4, hcz17_5, hcz17_6, hcz17_7, hfz17_0, hfz17_1, hfz17_2, hfz17_3, hfz17_4, hfz17_5, hfz17_6, hfz17_7⟩ := blkF8_ BK101.out) | ((with_reducible refine gate_callee (f := 77) rfl ?_); refine goesL_ (some 13) rfl rfl Try.func77 (by kernel_rfl) rfl #[.slice A0_2 l0_2.length c0_2] rfl (by (try simp only [List.map_toArray, List.map_cons, List.map_nil]); first | done | rfl | (simp only [List.length_drop, List.length_take]; rfl)) ?_; (with_reducible refine (laws_toIntS.calls k _ _ l0_2 t107 _ ?side1 ?side2 A3.out).mono ?_); (case side1 => exact Kd.C_below HR0_2.out (bw_)); (case side2 => exact HC0_2.out); rintro e w18 ⟨v108, rfl, ho0, hb⟩; refine ⟨_, rfl, ?_⟩; have n0_ := Aside0.mk (Kd.R_below (by (with_reducible repeat (first | apply Kd.R_alloc | apply Kd.R_drewN | apply Kd.R_drew)); exact (Kd.R_mono (Kd.R_far (p := ⟨gb103, 1, none⟩) (Kd.R_types HO106.out BK103.out (by decide)) (fun _ hk => hk.2) (.slice Ao15 t104.length co15)) (fun _ h_ => h_.1))) hb); have n1_ := Aside0.mk (Kd.R_lower ho0 (below_size (bw_))); have n2_ := Aside0.mk (blk_below (g := gb101) (o := .cells #[.int .i64 a0_0, .slice A0_1 l0_1.length c0_1, .slice A0_2 l0_2.length c0_2, .int .i64 a0_3, .slice A0_4 l0_4.length c0_4, .int .i64 a0_5, .slice A0_6 l0_6.length c0_6, .int .i64 a0_7] 66 (0, 0)) (by (with_reducible repeat (first | refine blk_drewN ?_ _ | refine blk_drew ?_ | refine blk_alloc ?_ _)); refine blk_far ?_ NB101_103.out _; (with_reducible repeat (first | refine blk_drewN ?_ _ | refine blk_drew ?_ | refine blk_alloc ?_ _)); exact BK101.out) hb); have n3_ := Aside0.mk (blk_below (g := gb102) (o := .cells #[.int .i64 0, .slice none 0 0, .slice none 0 0, .int .i64 0, .slice none 0 0, .int .i64 0, .slice none 0 0, .int .i64 0] 72 (0, 0)) (by (with_reducible repeat (first | refine blk_drewN ?_ _ | refine blk_drew ?_ | refine blk_alloc ?_ _)); refine blk_far ?_ NB102_103.out _; (with_reducible repeat (first | refine blk_drewN ?_ _ | refine blk_drew ?_ | refine blk_alloc ?_ _)); exact BK102.out) hb); have n4_ := Aside0.mk (blk_below (g := gb103) (o := .cells #[.int .i64 a0_0, .slice Ao15 t104.length co15, .slice none 0 0, .int .i64 0, .slice none 0 0, .int .i64 0, .slice none 0 0, .int .i64 0] 72 (0, 0)) (by (with_reducible repeat (first | refine blk_drewN ?_ _ | refine blk_drew ?_ | refine blk_alloc ?_ _)); refine blk_put (cs := #[.int .i64 a0_0, .slice none 0 0, .slice none 0 0, .int .i64 0, .slice none 0 0, .int .i64 0, .slice none 0 0, .int .i64 0]) ?_ 1 _ rfl; (with_reducible repeat (first | refine blk_drewN ?_ _ | refine blk_drew ?_ | refine blk_alloc ?_ _)); exact BK103.out) hb); have n5_ := Aside0.mk (below_step (bw_) hb); clear HO106; clear BK101; clear BK102; clear BK103; clear HB; have HO106 := n0_; have HO109 := n1_; have BK101 := n2_; have BK102 := n3_; have BK103 := n4_; have HB := n5_; clear n0_ n1_ n2_ n3_ n4_ n5_; (try clear hb); (try clear hb2); (try clear hk); (try clear hi); (try clear ho0); obtain ⟨Ao19, co19, eo19⟩ := Kd.R_slice HO109.out; subst eo19; obtain ⟨hcz20_0, hcz20_1, hcz20_2, hcz20_3, hcz20_4, hcz20_5, hcz20_6, hcz20_7, hfz20_0, hfz20_1, hfz20_2, hfz20_3, hfz20_4, hfz20_5, hfz20_6, hfz20_7⟩ := blkF8_ BK103.out; obtain ⟨hcz21_0, hcz21_1, hcz21_2, hcz21_3, hcz21_4, hcz21_5, hcz21_6, hcz21_7, hfz21_0, hfz21_1, hfz21_2, hfz21_3, hfz21_4, hfz21_5, hfz21_6, hfz21_7⟩ := blkF8_ BK101.out) | ((with_reducible refine gate_callee (f := 78) rfl ?_); refine goesL_ (some 20) rfl rfl Try.func78 (by kernel_rfl) rfl #[.slice A0_4 l0_4.length c0_4] rfl (by (try simp only [List.map_toArray, List.map_cons, List.map_nil]); first | done | rfl | (simp only [List.length_drop, List.length_take]; rfl)) ?_; (with_reducible refine (laws_toTwinS.calls k _ _ l0_4 t110 _ ?side1 ?side2 A4.out).mono ?_); (case side1 => exact Kd.C_below HR0_4.out (bw_)); (case side2 => exact HC0_4.out); rintro e w22 ⟨v111, rfl, ho0, hb⟩; refine ⟨_, rfl, ?_⟩; have n0_ := Aside0.mk (Kd.R_below (by (with_reducible repeat (first | apply Kd.R_alloc | apply Kd.R_drewN | apply Kd.R_drew)); exact (Kd.R_mono (Kd.R_far (p := ⟨gb103, 3, none⟩) (Kd.R_far (p := ⟨gb103, 2, none⟩) (Kd.R_types HO106.out BK103.out (by decide)) (fun _ hk => hk.2) (.slice Ao19 t107.length co19)) (fun _ hk => hk.2) (.int .i64 a0_3)) (fun _ h_ => h_.1))) hb); have n1_ := Aside0.mk (Kd.R_below (by (with_reducible repeat (first | apply Kd.R_alloc | apply Kd.R_drewN | apply Kd.R_drew)); exact (Kd.R_mono (Kd.R_far (p := ⟨gb103, 3, none⟩) (Kd.R_far (p := ⟨gb103, 2, none⟩) (Kd.R_types HO109.out BK103.out (by decide)) (fun _ hk => hk.2) (.slice Ao19 t107.length co19)) (fun _ hk => hk.2) (.int .i64 a0_3)) (fun _ h_ => h_.1))) hb); have n2_ := Aside0.mk (Kd.S_lower ho0 (below_size (bw_))); have n3_ := Aside0.mk (blk_below (g := gb101) (o := .cells #[.int .i64 a0_0, .slice A0_1 l0_1.length c0_1, .slice A0_2 l0_2.length c0_2, .int .i64 a0_3, .slice A0_4 l0_4.length c0_4, .int .i64 a0_5, .slice A0_6 l0_6.length c0_6, .int .i64 a0_7] 66 (0, 0)) (by (with_reducible repeat (first | refine blk_drewN ?_ _ | refine blk_drew ?_ | refine blk_alloc ?_ _)); refine blk_far ?_ NB101_103.out _; (with_reducible repeat (first | refine blk_drewN ?_ _ | refine blk_drew ?_ | refine blk_alloc ?_ _)); refine blk_far ?_ NB101_103.out _; (with_reducible repeat (first | refine blk_drewN ?_ _ | refine blk_drew ?_ | refine blk_alloc ?_ _)); exact BK101.out) hb); have n4_ := Aside0.mk (blk_below (g := gb102) (o := .cells #[.int .i64 0, .slice none 0 0, .slice none 0 0, .int .i64 0, .slice none 0 0, .int .i64 0, .slice none 0 0, .int .i64 0] 72 (0, 0)) (by (with_reducible repeat (first | refine blk_drewN ?_ _ | refine blk_drew ?_ | refine blk_alloc ?_ _)); refine blk_far ?_ NB102_103.out _; (with_reducible repeat (first | refine blk_drewN ?_ _ | refine blk_drew ?_ | refine blk_alloc ?_ _)); refine blk_far ?_ NB102_103.out _; (with_reducible repeat (first | refine blk_drewN ?_ _ | refine blk_drew ?_ | refine blk_alloc ?_ _)); exact BK102.out) hb); have n5_ := Aside0.mk (blk_below (g := gb103) (o := .cells #[.int .i64 a0_0, .slice Ao15 t104.length co15, .slice Ao19 t107.length co19, .int .i64 a0_3, .slice none 0 0, .int .i64 0, .slice none 0 0, .int .i64 0] 72 (0, 0)) (by (with_reducible repeat (first | refine blk_drewN ?_ _ | refine blk_drew ?_ | refine blk_alloc ?_ _)); refine blk_put (cs := #[.int .i64 a0_0, .slice Ao15 t104.length co15, .slice Ao19 t107.length co19, .int .i64 0, .slice none 0 0, .int .i64 0, .slice none 0 0, .int .i64 0]) ?_ 3 _ rfl; (with_reducible repeat (first | refine blk_drewN ?_ _ | refine blk_drew ?_ | refine blk_alloc ?_ _)); refine blk_put (cs := #[.int .i64 a0_0, .slice Ao15 t104.length co15, .slice none 0 0, .int .i64 0, .slice none 0 0, .int .i64 0, .slice none 0 0, .int .i64 0]) ?_ 2 _ rfl; (with_reducible repeat (first | refine blk_drewN ?_ _ | refine blk_drew ?_ | refine blk_alloc ?_ _)); exact BK103.out) hb); have n6_ := Aside0.mk (below_step (bw_) hb); clear HO106; clear HO109; clear BK101; clear BK102; clear BK103; clear HB; have HO106 := n0_; have HO109 := n1_; have HO112 := n2_; have BK101 := n3_; have BK102 := n4_; have BK103 := n5_; have HB := n6_; clear n0_ n1_ n2_ n3_ n4_ n5_ n6_; (try clear hb); (try clear hb2); (try clear hk); (try clear hi); (try clear ho0); obtain ⟨Ao23, co23, eo23⟩ := Kd.S_slice HO112.out; subst eo23; obtain ⟨hcz24_0, hcz24_1, hcz24_2, hcz24_3, hcz24_4, hcz24_5, hcz24_6, hcz24_7, hfz24_0, hfz24_1, hfz24_2, hfz24_3, hfz24_4, hfz24_5, hfz24_6, hfz24_7⟩ := blkF8_ BK103.out; obtain ⟨hcz25_0, hcz25_1, hcz25_2, hcz25_3, hcz25_4, hcz25_5, hcz25_6, hcz25_7, hfz25_0, hfz25_1, hfz25_2, hfz25_3, hfz25_4, hfz25_5, hfz25_6, hfz25_7⟩ := blkF8_ BK101.out) | ((with_reducible refine gate_callee (f := 53) rfl ?_); refine goesL_ (some 27) rfl rfl Try.func53 (by kernel_rfl) rfl #[.slice A0_6 l0_6.length c0_6] rfl (by (try simp only [List.map_toArray, List.map_cons, List.map_nil]); first | done | rfl | (simp only [List.length_drop, List.length_take]; rfl)) ?_; (with_reducible refine (laws_toValS.calls k _ _ l0_6 t113 _ ?side1 ?side2 A5.out).mono ?_); (case side1 => exact Kd.C_below HR0_6.out (bw_)); (case side2 => exact HC0_6.out); rintro e w26 ⟨v114, rfl, ho0, hb⟩; refine ⟨_, rfl, ?_⟩; have n0_ := Aside0.mk (Kd.R_elder' (by (with_reducible repeat (first | apply Kd.R_alloc | apply Kd.R_drewN | apply Kd.R_drew)); exact (Kd.R_mono (Kd.R_far (p := ⟨gb103, 5, none⟩) (Kd.R_far (p := ⟨gb103, 4, none⟩) (Kd.R_types HO106.out BK103.out (by decide)) (fun _ hk => hk.2) (.slice Ao23 t110.length co23)) (fun _ hk => hk.2) (.int .i64 a0_5)) (fun _ h_ => h_.1))) (Kd.R_base ho0) hb); have n1_ := Aside0.mk (Kd.R_below (by (with_reducible repeat (first | apply Kd.R_alloc | apply Kd.R_drewN | apply Kd.R_drew)); exact (Kd.R_mono (Kd.R_far (p := ⟨gb103, 5, none⟩) (Kd.R_far (p := ⟨gb103, 4, none⟩) (Kd.R_types HO109.out BK103.out (by decide)) (fun _ hk => hk.2) (.slice Ao23 t110.length co23)) (fun _ hk => hk.2) (.int .i64 a0_5)) (fun _ h_ => h_.1))) hb); have n2_ := Aside0.mk (Kd.S_elder' (by (with_reducible repeat (first | apply Kd.S_alloc | apply Kd.S_drewN | apply Kd.S_drew)); exact (Kd.S_mono (Kd.S_far (p := ⟨gb103, 5, none⟩) (Kd.S_far (p := ⟨gb103, 4, none⟩) (Kd.S_types HO112.out BK103.out (by decide)) (fun _ hk => hk.2) (.slice Ao23 t110.length co23)) (fun _ hk => hk.2) (.int .i64 a0_5)) (fun _ h_ => h_.1))) (Kd.R_base ho0) hb); have n3_ := Aside0.mk (Kd.R_lower ho0 (below_size (bw_))); have n4_ := Aside0.mk (blk_below (g := gb101) (o := .cells #[.int .i64 a0_0, .slice A0_1 l0_1.length c0_1, .slice A0_2 l0_2.length c0_2, .int .i64 a0_3, .slice A0_4 l0_4.length c0_4, .int .i64 a0_5, .slice A0_6 l0_6.length c0_6, .int .i64 a0_7] 66 (0, 0)) (by (with_reducible repeat (first | refine blk_drewN ?_ _ | refine blk_drew ?_ | refine blk_alloc ?_ _)); refine blk_far ?_ NB101_103.out _; (with_reducible repeat (first | refine blk_drewN ?_ _ | refine blk_drew ?_ | refine blk_alloc ?_ _)); refine blk_far ?_ NB101_103.out _; (with_reducible repeat (first | refine blk_drewN ?_ _ | refine blk_drew ?_ | refine blk_alloc ?_ _)); exact BK101.out) hb); have n5_ := Aside0.mk (blk_below (g := gb102) (o := .cells #[.int .i64 0, .slice none 0 0, .slice none 0 0, .int .i64 0, .slice none 0 0, .int .i64 0, .slice none 0 0, .int .i64 0] 72 (0, 0)) (by (with_reducible repeat (first | refine blk_drewN ?_ _ | refine blk_drew ?_ | refine blk_alloc ?_ _)); refine blk_far ?_ NB102_103.out _; (with_reducible repeat (first | refine blk_drewN ?_ _ | refine blk_drew ?_ | refine blk_alloc ?_ _)); refine blk_far ?_ NB102_103.out _; (with_reducible repeat (first | refine blk_drewN ?_ _ | refine blk_drew ?_ | refine blk_alloc ?_ _)); exact BK102.out) hb); have n6_ := Aside0.mk (blk_below (g := gb103) (o := .cells #[.int .i64 a0_0, .slice Ao15 t104.length co15, .slice Ao19 t107.length co19, .int .i64 a0_3, .slice Ao23 t110.length co23, .int .i64 a0_5, .slice none 0 0, .int .i64 0] 72 (0, 0)) (by (with_reducible repeat (first | refine blk_drewN ?_ _ | refine blk_drew ?_ | refine blk_alloc ?_ _)); refine blk_put (cs := #[.int .i64 a0_0, .slice Ao15 t104.length co15, .slice Ao19 t107.length co19, .int .i64 a0_3, .slice Ao23 t110.length co23, .int .i64 0, .slice none 0 0, .int .i64 0]) ?_ 5 _ rfl; (with_reducible repeat (first | refine blk_drewN ?_ _ | refine blk_drew ?_ | refine blk_alloc ?_ _)); refine blk_put (cs := #[.int .i64 a0_0, .slice Ao15 t104.length co15, .slice Ao19 t107.length co19, .int .i64 a0_3, .slice none 0 0, .int .i64 0, .slice none 0 0, .int .i64 0]) ?_ 4 _ rfl; (with_reducible repeat (first | refine blk_drewN ?_ _ | refine blk_drew ?_ | refine blk_alloc ?_ _)); exact BK103.out) hb); have n7_ := Aside0.mk (below_step (bw_) hb); clear HO106; clear HO109; clear HO112; clear BK101; clear BK102; clear BK103; clear HB; have HO106 := n0_; have HO109 := n1_; have HO112 := n2_; have HO115 := n3_; have BK101 := n4_; have BK102 := n5_; have BK103 := n6_; have HB := n7_; clear n0_ n1_ n2_ n3_ n4_ n5_ n6_ n7_; (try clear hb); (try clear hb2); (try clear hk); (try clear hi); (try clear ho0); obtain ⟨Ao27, co27, eo27⟩ := Kd.R_slice HO115.out; subst eo27; obtain ⟨hcz28_0, hcz28_1, hcz28_2, hcz28_3, hcz28_4, hcz28_5, hcz28_6, hcz28_7, hfz28_0, hfz28_1, hfz28_2, hfz28_3, hfz28_4, hfz28_5, hfz28_6, hfz28_7⟩ := blkF8_ BK103.out; obtain ⟨hcz29_0, hcz29_1, hcz29_2, hcz29_3, hcz29_4, hcz29_5, hcz29_6, hcz29_7, hfz29_0, hfz29_1, hfz29_2, hfz29_3, hfz29_4, hfz29_5, hfz29_6, hfz29_7⟩ := blkF8_ BK101.out; obtain ⟨hcz30_0, hcz30_1, hcz30_2, hcz30_3, hcz30_4, hcz30_5, hcz30_6, hcz30_7, hfz30_0, hfz30_1, hfz30_2, hfz30_3, hfz30_4, hfz30_5, hfz30_6, hfz30_7⟩ := blkF8_ BK102.out))
  refine bodyPost_ret (results_cell_row rfl _ _ gb102 72 #[.int .i64 a0_0, .slice Ao15 t104.length co15, .slice Ao19 t107.length co19, .int .i64 a0_3, .slice Ao23 t110.length co23, .int .i64 a0_5, .slice Ao27 t113.length co27, .int .i64 a0_7] (0, 0) _ rfl (by (with_reducible repeat (first | refine blk_drewN ?_ _ | refine blk_drew ?_ | refine blk_alloc ?_ _)); refine blk_put (cs := #[.int .i64 a0_0, .slice Ao15 t104.length co15, .slice Ao19 t107.length co19, .int .i64 a0_3, .slice Ao23 t110.length co23, .int .i64 a0_5, .slice Ao27 t113.length co27, .int .i64 0]) ?_ 7 _ rfl; (with_reducible repeat (first | refine blk_drewN ?_ _ | refine blk_drew ?_ | refine blk_alloc ?_ _)); refine blk_put (cs := #[.int .i64 a0_0, .slice Ao15 t104.length co15, .slice Ao19 t107.length co19, .int .i64 a0_3, .slice Ao23 t110.length co23, .int .i64 a0_5, .slice none 0 0, .int .i64 0]) ?_ 6 _ rfl; (with_reducible repeat (first | refine blk_drewN ?_ _ | refine blk_drew ?_ | refine blk_alloc ?_ _)); refine blk_put (cs := #[.int .i64 a0_0, .slice Ao15 t104.length co15, .slice Ao19 t107.length co19, .int .i64 a0_3, .slice Ao23 t110.length co23, .int .i64 0, .slice none 0 0, .int .i64 0]) ?_ 5 _ rfl; (with_reducible repeat (first | refine blk_drewN ?_ _ | refine blk_drew ?_ | refine blk_alloc ?_ _)); refine blk_put (cs := #[.int .i64 a0_0, .slice Ao15 t104.length co15, .slice Ao19 t107.length co19, .int .i64 a0_3, .slice none 0 0, .int .i64 0, .slice none 0 0, .int .i64 0]) ?_ 4 _ rfl; (with_reducible repeat (first | refine blk_drewN ?_ _ | refine blk_drew ?_ | refine blk_alloc ?_ _)); refine blk_put (cs := #[.int .i64 a0_0, .slice Ao15 t104.length co15, .slice Ao19 t107.length co19, .int .i64 0, .slice none 0 0, .int .i64 0, .slice none 0 0, .int .i64 0]) ?_ 3 _ rfl; (with_reducible repeat (first | refine blk_drewN ?_ _ | refine blk_drew ?_ | refine blk_alloc ?_ _)); refine blk_put (cs := #[.int .i64 a0_0, .slice Ao15 t104.length co15, .slice none 0 0, .int .i64 0, .slice none 0 0, .int .i64 0, .slice none 0 0, .int .i64 0]) ?_ 2 _ rfl; (with_reducible repeat (first | refine blk_drewN ?_ _ | refine blk_drew ?_ | refine blk_alloc ?_ _)); refine blk_put (cs := #[.int .i64 a0_0, .slice none 0 0, .slice none 0 0, .int .i64 0, .slice none 0 0, .int .i64 0, .slice none 0 0, .int .i64 0]) ?_ 1 _ rfl; (with_reducible repeat (first | refine blk_drewN ?_ _ | refine blk_drew ?_ | refine blk_alloc ?_ _)); refine blk_put (cs := #[.int .i64 0, .slice none 0 0, .slice none 0 0, .int .i64 0, .slice none 0 0, .int .i64 0, .slice none 0 0, .int .i64 0]) ?_ 0 _ rfl; (with_reducible repeat (first | refine blk_drewN ?_ _ | refine blk_drew ?_ | refine blk_alloc ?_ _)); refine blk_far ?_ NB102_103.out _; (with_reducible repeat (first | refine blk_drewN ?_ _ | refine blk_drew ?_ | refine blk_alloc ?_ _)); refine blk_far ?_ NB102_103.out _; (with_reducible repeat (first | refine blk_drewN ?_ _ | refine blk_drew ?_ | refine blk_alloc ?_ _)); exact BK102.out) Try.underlying72 rfl (by kernel_rfl)) rfl ?_
  exact ⟨_, _, _, _, by first | rfl | (simp [errW_none, errW_some] <;> rfl) | (simp [*, errW_none, errW_some] <;> rfl), by (with_reducible repeat (first | apply Kd.R_alloc | apply Kd.R_drewN | apply Kd.R_drew)); exact Kd.R_mono (Kd.R_far (p := ⟨gb102, 7, none⟩) (Kd.R_far (p := ⟨gb102, 6, none⟩) (Kd.R_far (p := ⟨gb102, 5, none⟩) (Kd.R_far (p := ⟨gb102, 4, none⟩) (Kd.R_far (p := ⟨gb102, 3, none⟩) (Kd.R_far (p := ⟨gb102, 2, none⟩) (Kd.R_far (p := ⟨gb102, 1, none⟩) (Kd.R_far (p := ⟨gb102, 0, none⟩) (Kd.R_far (p := ⟨gb103, 7, none⟩) (Kd.R_far (p := ⟨gb103, 6, none⟩) (Kd.R_types (Kd.R_types HO106.out BK103.out (by decide)) BK102.out (by decide)) (fun _ hk => hk.1.2) (.slice Ao27 t113.length co27)) (fun _ hk => hk.1.2) (.int .i64 a0_7)) (fun _ hk => hk.2) (.int .i64 a0_0)) (fun _ hk => hk.2) (.slice Ao15 t104.length co15)) (fun _ hk => hk.2) (.slice Ao19 t107.length co19)) (fun _ hk => hk.2) (.int .i64 a0_3)) (fun _ hk => hk.2) (.slice Ao23 t110.length co23)) (fun _ hk => hk.2) (.int .i64 a0_5)) (fun _ hk => hk.2) (.slice Ao27 t113.length co27)) (fun _ hk => hk.2) (.int .i64 a0_7)) (fun _ hk => hk.1.1.2), by (with_reducible repeat (first | apply Kd.R_alloc | apply Kd.R_drewN | apply Kd.R_drew)); exact Kd.R_mono (Kd.R_far (p := ⟨gb102, 7, none⟩) (Kd.R_far (p := ⟨gb102, 6, none⟩) (Kd.R_far (p := ⟨gb102, 5, none⟩) (Kd.R_far (p := ⟨gb102, 4, none⟩) (Kd.R_far (p := ⟨gb102, 3, none⟩) (Kd.R_far (p := ⟨gb102, 2, none⟩) (Kd.R_far (p := ⟨gb102, 1, none⟩) (Kd.R_far (p := ⟨gb102, 0, none⟩) (Kd.R_far (p := ⟨gb103, 7, none⟩) (Kd.R_far (p := ⟨gb103, 6, none⟩) (Kd.R_types (Kd.R_types HO109.out BK103.out (by decide)) BK102.out (by decide)) (fun _ hk => hk.1.2) (.slice Ao27 t113.length co27)) (fun _ hk => hk.1.2) (.int .i64 a0_7)) (fun _ hk => hk.2) (.int .i64 a0_0)) (fun _ hk => hk.2) (.slice Ao15 t104.length co15)) (fun _ hk => hk.2) (.slice Ao19 t107.length co19)) (fun _ hk => hk.2) (.int .i64 a0_3)) (fun _ hk => hk.2) (.slice Ao23 t110.length co23)) (fun _ hk => hk.2) (.int .i64 a0_5)) (fun _ hk => hk.2) (.slice Ao27 t113.length co27)) (fun _ hk => hk.2) (.int .i64 a0_7)) (fun _ hk => trivial), by (with_reducible repeat (first | apply Kd.S_alloc | apply Kd.S_drewN | apply Kd.S_drew)); exact Kd.S_mono (Kd.S_far (p := ⟨gb102, 7, none⟩) (Kd.S_far (p := ⟨gb102, 6, none⟩) (Kd.S_far (p := ⟨gb102, 5, none⟩) (Kd.S_far (p := ⟨gb102, 4, none⟩) (Kd.S_far (p := ⟨gb102, 3, none⟩) (Kd.S_far (p := ⟨gb102, 2, none⟩) (Kd.S_far (p := ⟨gb102, 1, none⟩) (Kd.S_far (p := ⟨gb102, 0, none⟩) (Kd.S_far (p := ⟨gb103, 7, none⟩) (Kd.S_far (p := ⟨gb103, 6, none⟩) (Kd.S_types (Kd.S_types HO112.out BK103.out (by decide)) BK102.out (by decide)) (fun _ hk => hk.1.2) (.slice Ao27 t113.length co27)) (fun _ hk => hk.1.2) (.int .i64 a0_7)) (fun _ hk => hk.2) (.int .i64 a0_0)) (fun _ hk => hk.2) (.slice Ao15 t104.length co15)) (fun _ hk => hk.2) (.slice Ao19 t107.length co19)) (fun _ hk => hk.2) (.int .i64 a0_3)) (fun _ hk => hk.2) (.slice Ao23 t110.length co23)) (fun _ hk => hk.2) (.int .i64 a0_5)) (fun _ hk => hk.2) (.slice Ao27 t113.length co27)) (fun _ hk => hk.2) (.int .i64 a0_7)) (fun _ hk => hk.1.1.2), by (with_reducible repeat (first | apply Kd.R_alloc | apply Kd.R_drewN | apply Kd.R_drew)); exact Kd.R_mono (Kd.R_far (p := ⟨gb102, 7, none⟩) (Kd.R_far (p := ⟨gb102, 6, none⟩) (Kd.R_far (p := ⟨gb102, 5, none⟩) (Kd.R_far (p := ⟨gb102, 4, none⟩) (Kd.R_far (p := ⟨gb102, 3, none⟩) (Kd.R_far (p := ⟨gb102, 2, none⟩) (Kd.R_far (p := ⟨gb102, 1, none⟩) (Kd.R_far (p := ⟨gb102, 0, none⟩) (Kd.R_far (p := ⟨gb103, 7, none⟩) (Kd.R_far (p := ⟨gb103, 6, none⟩) (Kd.R_types (Kd.R_types HO115.out BK103.out (by decide)) BK102.out (by decide)) (fun _ hk => hk.1.2) (.slice Ao27 t113.length co27)) (fun _ hk => hk.1.2) (.int .i64 a0_7)) (fun _ hk => hk.2) (.int .i64 a0_0)) (fun _ hk => hk.2) (.slice Ao15 t104.length co15)) (fun _ hk => hk.2) (.slice Ao19 t107.length co19)) (fun _ hk => hk.2) (.int .i64 a0_3)) (fun _ hk => hk.2) (.slice Ao23 t110.length co23)) (fun _ hk => hk.2) (.int .i64 a0_5)) (fun _ hk => hk.2) (.slice Ao27 t113.length co27)) (fun _ hk => hk.2) (.int .i64 a0_7)) (fun _ hk => trivial), bw_⟩
end Go.Proofs.Ytcllkemhlhbdgaa.G
namespace Go.Proofs.Ytcllkemhlhbdgaa.G
set_option linter.unusedVariables false
open Go.RowKit Go.Proofs.YtcllkemhlhbdgaaW.PrintWords Go.Proofs.YtcllkemhlhbdgaaW.PrintLast
theorem szIntS_tells (l : List Int) (left : Int) (h0 : 0 ≤ left) (h1 : left ≤ 1048576) (hw : l.length ≤ 9223372036854775807 ∧ ∀ y ∈ l, In64 y) :
    ∃ t, (t ≤ left ∧ (0 ≤ t → l.length ≤ 1048576)) ∧ Ev (fun k => laws_szIntS.f l left) t := by
  unfold laws_szIntS.f
  have hw1 := hw.1
  rw [w64 (by omega) (by omega)]
  by_cases hneg : left - (l.length : Int) < 0
  · exact ⟨-1, ⟨by omega, by omega⟩, Ev.ifp hneg (Ev.now _)⟩
  · exact ⟨_, ⟨by omega, fun h => by omega⟩, Ev.ifn hneg (Ev.now _)⟩
theorem toIntS_tells (l : List Int) (hs : l.length ≤ 1048576) : Ev (fun k => laws_toIntS.f k l) l := by
  unfold laws_toIntS.f
  refine Ev.ifp (by omega) (Ev.ifp (by omega) ?_)
  rw [Int.toNat_natCast]
  have h := ev_map (fun k s i => laws_toIntS.l0 k l s i) l id 0 (fun i hi ys hy r hr => ?_) (fun ys hy => ?_)
  · rwa [List.map_id] at h
  · refine Ev.step (fun k => by rw [laws_toIntS.l0]) ?_
    refine Ev.ifp (by omega) (Ev.ifp (by omega) (Ev.ifp (by omega) ?_))
    rw [w64 (by omega) (by omega), show rd l (i : Int) = l[i] from rdget hi, Int.toNat_natCast]
    exact hr
  · exact Ev.step (fun k => by rw [laws_toIntS.l0]) (Ev.ifn (by omega) (Ev.now _))
theorem eqIntS_self (l : List Int) (hs : l.length ≤ 1048576) : Ev (fun k => laws_eqIntS.f k l l) true := by
  unfold laws_eqIntS.f
  refine Ev.ifp rfl ?_
  refine ev_all (fun k i => laws_eqIntS.l0 k l l i) l.length true (fun i hi r hr => ?_) ?_
  · refine Ev.step (fun k => by rw [laws_eqIntS.l0]) ?_
    refine Ev.ifp (by omega) (Ev.ifp (by omega) (Ev.ifp (by omega) (Ev.ifp rfl ?_)))
    rw [w64 (by omega) (by omega)]
    exact hr
  · exact Ev.step (fun k => by rw [laws_eqIntS.l0]) (Ev.ifn (by omega) (Ev.now _))
def cFrame (x : S_laws_Frame) : S_impl_Frame := ⟨x.f0, x.f1, x.f2, (x.f3.map cVal), (x.f4.map cVal)⟩
theorem rd_laws_Frame_at {l : List S_laws_Frame} {i : Nat} (h : i < l.length) : rd_laws_Frame l i = l[i] := rdget h
theorem rd_impl_Frame_at {l : List S_impl_Frame} {i : Nat} (h : i < l.length) : rd_impl_Frame l i = l[i] := rdget h
def small_Frame (x : S_laws_Frame) : Prop := x.f3.length ≤ 1048576 ∧ x.f4.length ≤ 1048576
def smallI_Frame (x : S_impl_Frame) : Prop := x.f3.length ≤ 1048576 ∧ x.f4.length ≤ 1048576
theorem smallI_of_Frame {x : S_laws_Frame} (h : small_Frame x) : smallI_Frame (cFrame x) := ⟨(by simpa [cFrame] using h.1), (by simpa [cFrame] using h.2)⟩
theorem szFrame_tells (x : S_laws_Frame) (left : Int) (h0 : 0 ≤ left) (h1 : left ≤ 1048576) (hw : wf_laws_Frame x) :
    ∃ t, (t ≤ left ∧ (0 ≤ t → small_Frame x)) ∧ Ev (fun k => laws_szFrame.f x.f0 x.f1 x.f2 x.f3 x.f4 left) t := by
  unfold laws_szFrame.f
  obtain ⟨t0, ⟨l0, p0⟩, e0⟩ := szValS_tells x.f3 left (by omega) (by omega) hw.2.2.2.1
  by_cases n0 : t0 < 0
  · exact ⟨-1, ⟨by omega, by omega⟩, (Ev.bnd e0 (Ev.ifp n0 (Ev.now _)))⟩
  · skip
    obtain ⟨t1, ⟨l1, p1⟩, e1⟩ := szValS_tells x.f4 t0 (by omega) (by omega) hw.2.2.2.2
    by_cases n1 : t1 < 0
    · exact ⟨-1, ⟨by omega, by omega⟩, (Ev.bnd e0 (Ev.ifn n0 (Ev.bnd e1 (Ev.ifp n1 (Ev.now _)))))⟩
    · exact ⟨t1, ⟨by omega, fun h => ⟨p0 (by omega), p1 (by omega)⟩⟩, (Ev.bnd e0 (Ev.ifn n0 (Ev.bnd e1 (Ev.ifn n1 (Ev.now _)))))⟩
theorem toFrame_tells (x : S_laws_Frame) (hs : small_Frame x) : Ev (fun k => laws_toFrame.f k x.f0 x.f1 x.f2 x.f3 x.f4) (x.f0, x.f1, x.f2, (x.f3.map cVal), (x.f4.map cVal)) := by
  unfold laws_toFrame.f
  exact (Ev.bnd (toValS_tells x.f3 hs.1) (Ev.bnd (toValS_tells x.f4 hs.2) (Ev.now _)))
theorem eqFrame_self (x : S_impl_Frame) (hs : smallI_Frame x) : Ev (fun k => laws_eqFrame.f k x.f0 x.f1 x.f2 x.f3 x.f4 x.f0 x.f1 x.f2 x.f3 x.f4) true := by
  unfold laws_eqFrame.f
  exact (Ev.ifp rfl (Ev.ifp rfl (Ev.ifp rfl (Ev.bnd (eqValS_self x.f3 hs.1) (Ev.ifp rfl (Ev.bnd (eqValS_self x.f4 hs.2) (Ev.ifp rfl (Ev.now _))))))))
theorem szFrameS_tells (l : List S_laws_Frame) (left : Int) (h0 : 0 ≤ left) (h1 : left ≤ 1048576) (hw : l.length ≤ 9223372036854775807 ∧ ∀ y ∈ l, wf_laws_Frame y) :
    ∃ t, (t ≤ left ∧ (0 ≤ t → (l.length ≤ 1048576 ∧ ∀ y ∈ l, small_Frame y))) ∧ Ev (fun k => laws_szFrameS.f k l left) t := by
  unfold laws_szFrameS.f
  have hw1 := hw.1
  rw [w64 (by omega) (by omega)]
  by_cases hneg : left - (l.length : Int) < 0
  · exact ⟨-1, ⟨by omega, by omega⟩, Ev.ifp hneg (Ev.now _)⟩
  · obtain ⟨r, hp, hr⟩ := ev_for0 (σ := Int) (fun k i s => laws_szFrameS.l0 k l s i) l.length (fun i s => 0 ≤ s ∧ s ≤ left - l.length ∧ ∀ (j : Nat) (hj : j < l.length), j < i → small_Frame l[j])
      (fun t => t ≤ left ∧ (0 ≤ t → ∀ y ∈ l, small_Frame y))
      (fun i s hi ⟨hs0, hs1, hs2⟩ => by
        obtain ⟨t, ⟨htl, htp⟩, ht⟩ := szFrame_tells l[i] s hs0 (by omega) (hw.2 _ (List.getElem_mem hi))
        by_cases hn : t < 0
        · refine .inl ⟨-1, ⟨by omega, by omega⟩, ?_⟩
          refine Ev.step (fun k => by rw [laws_szFrameS.l0]) ?_
          refine Ev.ifp (by omega) (Ev.ifp (by omega) ?_)
          rw [rd_laws_Frame_at hi]
          exact Ev.bnd ht (Ev.ifp hn (Ev.now _))
        · refine .inr ⟨t, ⟨by omega, by omega, fun j hj hji => ?_⟩, fun r hr => ?_⟩
          · by_cases e : j = i
            · subst e
              exact htp (by omega)
            · exact hs2 j hj (by omega)
          · refine Ev.step (fun k => by rw [laws_szFrameS.l0]) ?_
            refine Ev.ifp (by omega) (Ev.ifp (by omega) ?_)
            rw [rd_laws_Frame_at hi]
            refine Ev.bnd ht (Ev.ifn hn ?_)
            rw [w64 (by omega) (by omega)]
            exact hr)
      (fun s ⟨hs0, hs1, hs2⟩ => ⟨s, ⟨by omega, fun _ m hm => by
        obtain ⟨j, hj, rfl⟩ := List.mem_iff_getElem.mp hm
        exact hs2 j hj hj⟩, Ev.step (fun k => by rw [laws_szFrameS.l0]) (Ev.ifn (by omega) (Ev.now _))⟩)
      (left - l.length) ⟨by omega, by omega, fun j hj h => absurd h (Nat.not_lt_zero _)⟩
    exact ⟨r, ⟨hp.1, fun h => ⟨by omega, hp.2 h⟩⟩, Ev.ifn hneg hr⟩
theorem toFrameS_tells (l : List S_laws_Frame) (hs : (l.length ≤ 1048576 ∧ ∀ y ∈ l, small_Frame y)) : Ev (fun k => laws_toFrameS.f k l) (l.map cFrame) := by
  unfold laws_toFrameS.f
  have hl := hs.1
  refine Ev.ifp (by omega) (Ev.ifp (by omega) ?_)
  rw [Int.toNat_natCast]
  refine ev_map (fun k s i => laws_toFrameS.l0 k l s i) l cFrame z_impl_Frame (fun i hi ys hy r hr => ?_) (fun ys hy => ?_)
  · refine Ev.step (fun k => by rw [laws_toFrameS.l0]) ?_
    refine Ev.ifp (by omega) (Ev.ifp (by omega) ?_)
    rw [rd_laws_Frame_at hi]
    refine Ev.bnd (toFrame_tells l[i] (hs.2 _ (List.getElem_mem hi))) (Ev.ifp (by omega) ?_)
    rw [w64 (by omega) (by omega), Int.toNat_natCast]
    exact hr
  · exact Ev.step (fun k => by rw [laws_toFrameS.l0]) (Ev.ifn (by omega) (Ev.now _))
theorem eqFrameS_self (l : List S_impl_Frame) (hs : (l.length ≤ 1048576 ∧ ∀ y ∈ l, smallI_Frame y)) : Ev (fun k => laws_eqFrameS.f k l l) true := by
  unfold laws_eqFrameS.f
  have hl := hs.1
  refine Ev.ifp rfl ?_
  refine ev_all (fun k i => laws_eqFrameS.l0 k l l i) l.length true (fun i hi r hr => ?_) ?_
  · refine Ev.step (fun k => by rw [laws_eqFrameS.l0]) ?_
    refine Ev.ifp (by omega) (Ev.ifp (by omega) (Ev.ifp (by omega) ?_))
    rw [rd_impl_Frame_at hi]
    refine Ev.bnd (eqFrame_self l[i] (hs.2 _ (List.getElem_mem hi))) (Ev.ifp rfl ?_)
    rw [w64 (by omega) (by omega)]
    exact hr
  · exact Ev.step (fun k => by rw [laws_eqFrameS.l0]) (Ev.ifn (by omega) (Ev.now _))
def cPage (x : S_laws_Page) : S_impl_Page := ⟨x.f0, (x.f1.map cFrame)⟩
theorem rd_laws_Page_at {l : List S_laws_Page} {i : Nat} (h : i < l.length) : rd_laws_Page l i = l[i] := rdget h
theorem rd_impl_Page_at {l : List S_impl_Page} {i : Nat} (h : i < l.length) : rd_impl_Page l i = l[i] := rdget h
def small_Page (x : S_laws_Page) : Prop := (x.f1.length ≤ 1048576 ∧ ∀ y ∈ x.f1, small_Frame y)
def smallI_Page (x : S_impl_Page) : Prop := (x.f1.length ≤ 1048576 ∧ ∀ y ∈ x.f1, smallI_Frame y)
theorem smallI_of_Page {x : S_laws_Page} (h : small_Page x) : smallI_Page (cPage x) := ⟨by simpa [cPage] using h.1, fun y hy => by
    obtain ⟨z, hz, rfl⟩ := List.mem_map.mp hy
    exact smallI_of_Frame (h.2 z hz)⟩
theorem szPage_tells (x : S_laws_Page) (left : Int) (h0 : 0 ≤ left) (h1 : left ≤ 1048576) (hw : wf_laws_Page x) :
    ∃ t, (t ≤ left ∧ (0 ≤ t → small_Page x)) ∧ Ev (fun k => laws_szPage.f k x.f0 x.f1 left) t := by
  unfold laws_szPage.f
  obtain ⟨t0, ⟨l0, p0⟩, e0⟩ := szFrameS_tells x.f1 left (by omega) (by omega) hw.2
  by_cases n0 : t0 < 0
  · exact ⟨-1, ⟨by omega, by omega⟩, (Ev.bnd e0 (Ev.ifp n0 (Ev.now _)))⟩
  · exact ⟨t0, ⟨by omega, fun h => p0 (by omega)⟩, (Ev.bnd e0 (Ev.ifn n0 (Ev.now _)))⟩
theorem toPage_tells (x : S_laws_Page) (hs : small_Page x) : Ev (fun k => laws_toPage.f k x.f0 x.f1) (x.f0, (x.f1.map cFrame)) := by
  unfold laws_toPage.f
  exact (Ev.bnd (toFrameS_tells x.f1 hs) (Ev.now _))
theorem eqPage_self (x : S_impl_Page) (hs : smallI_Page x) : Ev (fun k => laws_eqPage.f k x.f0 x.f1 x.f0 x.f1) true := by
  unfold laws_eqPage.f
  exact (Ev.ifp rfl (Ev.bnd (eqFrameS_self x.f1 hs) (Ev.ifp rfl (Ev.now _))))
theorem szPageS_tells (l : List S_laws_Page) (left : Int) (h0 : 0 ≤ left) (h1 : left ≤ 1048576) (hw : l.length ≤ 9223372036854775807 ∧ ∀ y ∈ l, wf_laws_Page y) :
    ∃ t, (t ≤ left ∧ (0 ≤ t → (l.length ≤ 1048576 ∧ ∀ y ∈ l, small_Page y))) ∧ Ev (fun k => laws_szPageS.f k l left) t := by
  unfold laws_szPageS.f
  have hw1 := hw.1
  rw [w64 (by omega) (by omega)]
  by_cases hneg : left - (l.length : Int) < 0
  · exact ⟨-1, ⟨by omega, by omega⟩, Ev.ifp hneg (Ev.now _)⟩
  · obtain ⟨r, hp, hr⟩ := ev_for0 (σ := Int) (fun k i s => laws_szPageS.l0 k l s i) l.length (fun i s => 0 ≤ s ∧ s ≤ left - l.length ∧ ∀ (j : Nat) (hj : j < l.length), j < i → small_Page l[j])
      (fun t => t ≤ left ∧ (0 ≤ t → ∀ y ∈ l, small_Page y))
      (fun i s hi ⟨hs0, hs1, hs2⟩ => by
        obtain ⟨t, ⟨htl, htp⟩, ht⟩ := szPage_tells l[i] s hs0 (by omega) (hw.2 _ (List.getElem_mem hi))
        by_cases hn : t < 0
        · refine .inl ⟨-1, ⟨by omega, by omega⟩, ?_⟩
          refine Ev.step (fun k => by rw [laws_szPageS.l0]) ?_
          refine Ev.ifp (by omega) (Ev.ifp (by omega) ?_)
          rw [rd_laws_Page_at hi]
          exact Ev.bnd ht (Ev.ifp hn (Ev.now _))
        · refine .inr ⟨t, ⟨by omega, by omega, fun j hj hji => ?_⟩, fun r hr => ?_⟩
          · by_cases e : j = i
            · subst e
              exact htp (by omega)
            · exact hs2 j hj (by omega)
          · refine Ev.step (fun k => by rw [laws_szPageS.l0]) ?_
            refine Ev.ifp (by omega) (Ev.ifp (by omega) ?_)
            rw [rd_laws_Page_at hi]
            refine Ev.bnd ht (Ev.ifn hn ?_)
            rw [w64 (by omega) (by omega)]
            exact hr)
      (fun s ⟨hs0, hs1, hs2⟩ => ⟨s, ⟨by omega, fun _ m hm => by
        obtain ⟨j, hj, rfl⟩ := List.mem_iff_getElem.mp hm
        exact hs2 j hj hj⟩, Ev.step (fun k => by rw [laws_szPageS.l0]) (Ev.ifn (by omega) (Ev.now _))⟩)
      (left - l.length) ⟨by omega, by omega, fun j hj h => absurd h (Nat.not_lt_zero _)⟩
    exact ⟨r, ⟨hp.1, fun h => ⟨by omega, hp.2 h⟩⟩, Ev.ifn hneg hr⟩
theorem toPageS_tells (l : List S_laws_Page) (hs : (l.length ≤ 1048576 ∧ ∀ y ∈ l, small_Page y)) : Ev (fun k => laws_toPageS.f k l) (l.map cPage) := by
  unfold laws_toPageS.f
  have hl := hs.1
  refine Ev.ifp (by omega) (Ev.ifp (by omega) ?_)
  rw [Int.toNat_natCast]
  refine ev_map (fun k s i => laws_toPageS.l0 k l s i) l cPage z_impl_Page (fun i hi ys hy r hr => ?_) (fun ys hy => ?_)
  · refine Ev.step (fun k => by rw [laws_toPageS.l0]) ?_
    refine Ev.ifp (by omega) (Ev.ifp (by omega) ?_)
    rw [rd_laws_Page_at hi]
    refine Ev.bnd (toPage_tells l[i] (hs.2 _ (List.getElem_mem hi))) (Ev.ifp (by omega) ?_)
    rw [w64 (by omega) (by omega), Int.toNat_natCast]
    exact hr
  · exact Ev.step (fun k => by rw [laws_toPageS.l0]) (Ev.ifn (by omega) (Ev.now _))
theorem eqPageS_self (l : List S_impl_Page) (hs : (l.length ≤ 1048576 ∧ ∀ y ∈ l, smallI_Page y)) : Ev (fun k => laws_eqPageS.f k l l) true := by
  unfold laws_eqPageS.f
  have hl := hs.1
  refine Ev.ifp rfl ?_
  refine ev_all (fun k i => laws_eqPageS.l0 k l l i) l.length true (fun i hi r hr => ?_) ?_
  · refine Ev.step (fun k => by rw [laws_eqPageS.l0]) ?_
    refine Ev.ifp (by omega) (Ev.ifp (by omega) (Ev.ifp (by omega) ?_))
    rw [rd_impl_Page_at hi]
    refine Ev.bnd (eqPage_self l[i] (hs.2 _ (List.getElem_mem hi))) (Ev.ifp rfl ?_)
    rw [w64 (by omega) (by omega)]
    exact hr
  · exact Ev.step (fun k => by rw [laws_eqPageS.l0]) (Ev.ifn (by omega) (Ev.now _))
def cTwin (x : S_laws_Twin) : S_impl_Twin := ⟨x.f0, x.f1, cCall x.f2⟩
theorem rd_laws_Twin_at {l : List S_laws_Twin} {i : Nat} (h : i < l.length) : rd_laws_Twin l i = l[i] := rdget h
theorem rd_impl_Twin_at {l : List S_impl_Twin} {i : Nat} (h : i < l.length) : rd_impl_Twin l i = l[i] := rdget h
def small_Twin (x : S_laws_Twin) : Prop := small_Call x.f2
def smallI_Twin (x : S_impl_Twin) : Prop := smallI_Call x.f2
theorem smallI_of_Twin {x : S_laws_Twin} (h : small_Twin x) : smallI_Twin (cTwin x) := smallI_of_Call h
theorem szTwin_tells (x : S_laws_Twin) (left : Int) (h0 : 0 ≤ left) (h1 : left ≤ 1048576) (hw : wf_laws_Twin x) :
    ∃ t, (t ≤ left ∧ (0 ≤ t → small_Twin x)) ∧ Ev (fun k => laws_szTwin.f x.f0 x.f1 x.f2.f0 x.f2.f1 x.f2.f2 x.f2.f3 x.f2.f4 x.f2.f5 left) t := by
  unfold laws_szTwin.f
  obtain ⟨t0, ⟨l0, p0⟩, e0⟩ := szCall_tells x.f2 left (by omega) (by omega) hw.2.2
  by_cases n0 : t0 < 0
  · exact ⟨-1, ⟨by omega, by omega⟩, (Ev.bnd e0 (Ev.ifp n0 (Ev.now _)))⟩
  · exact ⟨t0, ⟨by omega, fun h => p0 (by omega)⟩, (Ev.bnd e0 (Ev.ifn n0 (Ev.now _)))⟩
theorem toTwin_tells (x : S_laws_Twin) (hs : small_Twin x) : Ev (fun k => laws_toTwin.f k x.f0 x.f1 x.f2.f0 x.f2.f1 x.f2.f2 x.f2.f3 x.f2.f4 x.f2.f5) (x.f0, x.f1, x.f2.f0, x.f2.f1, (x.f2.f2.map cVal), (x.f2.f3.map cVal), x.f2.f4, x.f2.f5) := by
  unfold laws_toTwin.f
  exact (Ev.bnd (toCall_tells x.f2 hs) (Ev.now _))
theorem eqTwin_self (x : S_impl_Twin) (hs : smallI_Twin x) : Ev (fun k => laws_eqTwin.f k x.f0 x.f1 x.f2.f0 x.f2.f1 x.f2.f2 x.f2.f3 x.f2.f4 x.f2.f5 x.f0 x.f1 x.f2.f0 x.f2.f1 x.f2.f2 x.f2.f3 x.f2.f4 x.f2.f5) true := by
  unfold laws_eqTwin.f
  exact (Ev.ifp rfl (Ev.ifp rfl (Ev.bnd (eqCall_self x.f2 hs) (Ev.ifp rfl (Ev.now _)))))
theorem szTwinS_tells (l : List S_laws_Twin) (left : Int) (h0 : 0 ≤ left) (h1 : left ≤ 1048576) (hw : l.length ≤ 9223372036854775807 ∧ ∀ y ∈ l, wf_laws_Twin y) :
    ∃ t, (t ≤ left ∧ (0 ≤ t → (l.length ≤ 1048576 ∧ ∀ y ∈ l, small_Twin y))) ∧ Ev (fun k => laws_szTwinS.f k l left) t := by
  unfold laws_szTwinS.f
  have hw1 := hw.1
  rw [w64 (by omega) (by omega)]
  by_cases hneg : left - (l.length : Int) < 0
  · exact ⟨-1, ⟨by omega, by omega⟩, Ev.ifp hneg (Ev.now _)⟩
  · obtain ⟨r, hp, hr⟩ := ev_for0 (σ := Int) (fun k i s => laws_szTwinS.l0 k l s i) l.length (fun i s => 0 ≤ s ∧ s ≤ left - l.length ∧ ∀ (j : Nat) (hj : j < l.length), j < i → small_Twin l[j])
      (fun t => t ≤ left ∧ (0 ≤ t → ∀ y ∈ l, small_Twin y))
      (fun i s hi ⟨hs0, hs1, hs2⟩ => by
        obtain ⟨t, ⟨htl, htp⟩, ht⟩ := szTwin_tells l[i] s hs0 (by omega) (hw.2 _ (List.getElem_mem hi))
        by_cases hn : t < 0
        · refine .inl ⟨-1, ⟨by omega, by omega⟩, ?_⟩
          refine Ev.step (fun k => by rw [laws_szTwinS.l0]) ?_
          refine Ev.ifp (by omega) (Ev.ifp (by omega) ?_)
          rw [rd_laws_Twin_at hi]
          exact Ev.bnd ht (Ev.ifp hn (Ev.now _))
        · refine .inr ⟨t, ⟨by omega, by omega, fun j hj hji => ?_⟩, fun r hr => ?_⟩
          · by_cases e : j = i
            · subst e
              exact htp (by omega)
            · exact hs2 j hj (by omega)
          · refine Ev.step (fun k => by rw [laws_szTwinS.l0]) ?_
            refine Ev.ifp (by omega) (Ev.ifp (by omega) ?_)
            rw [rd_laws_Twin_at hi]
            refine Ev.bnd ht (Ev.ifn hn ?_)
            rw [w64 (by omega) (by omega)]
            exact hr)
      (fun s ⟨hs0, hs1, hs2⟩ => ⟨s, ⟨by omega, fun _ m hm => by
        obtain ⟨j, hj, rfl⟩ := List.mem_iff_getElem.mp hm
        exact hs2 j hj hj⟩, Ev.step (fun k => by rw [laws_szTwinS.l0]) (Ev.ifn (by omega) (Ev.now _))⟩)
      (left - l.length) ⟨by omega, by omega, fun j hj h => absurd h (Nat.not_lt_zero _)⟩
    exact ⟨r, ⟨hp.1, fun h => ⟨by omega, hp.2 h⟩⟩, Ev.ifn hneg hr⟩
theorem toTwinS_tells (l : List S_laws_Twin) (hs : (l.length ≤ 1048576 ∧ ∀ y ∈ l, small_Twin y)) : Ev (fun k => laws_toTwinS.f k l) (l.map cTwin) := by
  unfold laws_toTwinS.f
  have hl := hs.1
  refine Ev.ifp (by omega) (Ev.ifp (by omega) ?_)
  rw [Int.toNat_natCast]
  refine ev_map (fun k s i => laws_toTwinS.l0 k l s i) l cTwin z_impl_Twin (fun i hi ys hy r hr => ?_) (fun ys hy => ?_)
  · refine Ev.step (fun k => by rw [laws_toTwinS.l0]) ?_
    refine Ev.ifp (by omega) (Ev.ifp (by omega) ?_)
    rw [rd_laws_Twin_at hi]
    refine Ev.bnd (toTwin_tells l[i] (hs.2 _ (List.getElem_mem hi))) (Ev.ifp (by omega) ?_)
    rw [w64 (by omega) (by omega), Int.toNat_natCast]
    exact hr
  · exact Ev.step (fun k => by rw [laws_toTwinS.l0]) (Ev.ifn (by omega) (Ev.now _))
theorem eqTwinS_self (l : List S_impl_Twin) (hs : (l.length ≤ 1048576 ∧ ∀ y ∈ l, smallI_Twin y)) : Ev (fun k => laws_eqTwinS.f k l l) true := by
  unfold laws_eqTwinS.f
  have hl := hs.1
  refine Ev.ifp rfl ?_
  refine ev_all (fun k i => laws_eqTwinS.l0 k l l i) l.length true (fun i hi r hr => ?_) ?_
  · refine Ev.step (fun k => by rw [laws_eqTwinS.l0]) ?_
    refine Ev.ifp (by omega) (Ev.ifp (by omega) (Ev.ifp (by omega) ?_))
    rw [rd_impl_Twin_at hi]
    refine Ev.bnd (eqTwin_self l[i] (hs.2 _ (List.getElem_mem hi))) (Ev.ifp rfl ?_)
    rw [w64 (by omega) (by omega)]
    exact hr
  · exact Ev.step (fun k => by rw [laws_eqTwinS.l0]) (Ev.ifn (by omega) (Ev.now _))
structure IMach where
  f0 : Int
  f1 : List S_impl_Page
  f2 : List Int
  f3 : Int
  f4 : List S_impl_Twin
  f5 : Int
  f6 : List S_impl_Val
  f7 : Int
def cMach (x : S_laws_Mach) : IMach := ⟨x.f0, (x.f1.map cPage), x.f2, x.f3, (x.f4.map cTwin), x.f5, (x.f6.map cVal), x.f7⟩
def small_Mach (x : S_laws_Mach) : Prop := (x.f1.length ≤ 1048576 ∧ ∀ y ∈ x.f1, small_Page y) ∧ x.f2.length ≤ 1048576 ∧ (x.f4.length ≤ 1048576 ∧ ∀ y ∈ x.f4, small_Twin y) ∧ x.f6.length ≤ 1048576
def smallI_Mach (x : IMach) : Prop := (x.f1.length ≤ 1048576 ∧ ∀ y ∈ x.f1, smallI_Page y) ∧ x.f2.length ≤ 1048576 ∧ (x.f4.length ≤ 1048576 ∧ ∀ y ∈ x.f4, smallI_Twin y) ∧ x.f6.length ≤ 1048576
theorem smallI_of_Mach {x : S_laws_Mach} (h : small_Mach x) : smallI_Mach (cMach x) := ⟨⟨by simpa [cMach] using h.1.1, fun y hy => by
    obtain ⟨z, hz, rfl⟩ := List.mem_map.mp hy
    exact smallI_of_Page (h.1.2 z hz)⟩, h.2.1, ⟨by simpa [cMach] using h.2.2.1.1, fun y hy => by
    obtain ⟨z, hz, rfl⟩ := List.mem_map.mp hy
    exact smallI_of_Twin (h.2.2.1.2 z hz)⟩, (by simpa [cMach] using h.2.2.2)⟩
theorem szMach_tells (x : S_laws_Mach) (left : Int) (h0 : 0 ≤ left) (h1 : left ≤ 1048576) (hw : wf_laws_Mach x) :
    ∃ t, (t ≤ left ∧ (0 ≤ t → small_Mach x)) ∧ Ev (fun k => laws_szMach.f k x.f0 x.f1 x.f2 x.f3 x.f4 x.f5 x.f6 x.f7 left) t := by
  unfold laws_szMach.f
  obtain ⟨t0, ⟨l0, p0⟩, e0⟩ := szPageS_tells x.f1 left (by omega) (by omega) hw.2.1
  by_cases n0 : t0 < 0
  · exact ⟨-1, ⟨by omega, by omega⟩, (Ev.bnd e0 (Ev.ifp n0 (Ev.now _)))⟩
  · skip
    obtain ⟨t1, ⟨l1, p1⟩, e1⟩ := szIntS_tells x.f2 t0 (by omega) (by omega) hw.2.2.1
    by_cases n1 : t1 < 0
    · exact ⟨-1, ⟨by omega, by omega⟩, (Ev.bnd e0 (Ev.ifn n0 (Ev.bnd e1 (Ev.ifp n1 (Ev.now _)))))⟩
    · skip
      obtain ⟨t2, ⟨l2, p2⟩, e2⟩ := szTwinS_tells x.f4 t1 (by omega) (by omega) hw.2.2.2.2.1
      by_cases n2 : t2 < 0
      · exact ⟨-1, ⟨by omega, by omega⟩, (Ev.bnd e0 (Ev.ifn n0 (Ev.bnd e1 (Ev.ifn n1 (Ev.bnd e2 (Ev.ifp n2 (Ev.now _)))))))⟩
      · skip
        obtain ⟨t3, ⟨l3, p3⟩, e3⟩ := szValS_tells x.f6 t2 (by omega) (by omega) hw.2.2.2.2.2.2.1
        by_cases n3 : t3 < 0
        · exact ⟨-1, ⟨by omega, by omega⟩, (Ev.bnd e0 (Ev.ifn n0 (Ev.bnd e1 (Ev.ifn n1 (Ev.bnd e2 (Ev.ifn n2 (Ev.bnd e3 (Ev.ifp n3 (Ev.now _)))))))))⟩
        · exact ⟨t3, ⟨by omega, fun h => ⟨p0 (by omega), p1 (by omega), p2 (by omega), p3 (by omega)⟩⟩, (Ev.bnd e0 (Ev.ifn n0 (Ev.bnd e1 (Ev.ifn n1 (Ev.bnd e2 (Ev.ifn n2 (Ev.bnd e3 (Ev.ifn n3 (Ev.now _)))))))))⟩
theorem toMach_tells (x : S_laws_Mach) (hs : small_Mach x) : Ev (fun k => laws_toMach.f k x.f0 x.f1 x.f2 x.f3 x.f4 x.f5 x.f6 x.f7) (x.f0, (x.f1.map cPage), x.f2, x.f3, (x.f4.map cTwin), x.f5, (x.f6.map cVal), x.f7) := by
  unfold laws_toMach.f
  exact (Ev.bnd (toPageS_tells x.f1 hs.1) (Ev.bnd (toIntS_tells x.f2 hs.2.1) (Ev.bnd (toTwinS_tells x.f4 hs.2.2.1) (Ev.bnd (toValS_tells x.f6 hs.2.2.2) (Ev.now _)))))
theorem eqMach_self (x : IMach) (hs : smallI_Mach x) : Ev (fun k => laws_eqMach.f k x.f0 x.f1 x.f2 x.f3 x.f4 x.f5 x.f6 x.f7 x.f0 x.f1 x.f2 x.f3 x.f4 x.f5 x.f6 x.f7) true := by
  unfold laws_eqMach.f
  exact (Ev.ifp rfl (Ev.bnd (eqPageS_self x.f1 hs.1) (Ev.ifp rfl (Ev.bnd (eqIntS_self x.f2 hs.2.1) (Ev.ifp rfl (Ev.ifp rfl (Ev.bnd (eqTwinS_self x.f4 hs.2.2.1) (Ev.ifp rfl (Ev.ifp rfl (Ev.bnd (eqValS_self x.f6 hs.2.2.2) (Ev.ifp rfl (Ev.ifp rfl (Ev.now _)))))))))))))
end Go.Proofs.Ytcllkemhlhbdgaa.G
