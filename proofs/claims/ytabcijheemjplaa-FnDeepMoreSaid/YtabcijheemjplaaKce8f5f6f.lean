import Derived.Test.YtabcijheemjplaaK6ca9bb5a
import Derived.Test.YtabcijheemjplaaKb46c7b5f
namespace Go.Proofs.Ytabcijheemjplaa.G
open Go.RowKit Go.Proofs.YtabcijheemjplaaW.PrintWords Go.Proofs.YtabcijheemjplaaW.PrintLast Go.Proofs.YtabcijheemjplaaW.PrintMore
attribute [local go_sem] QaQ QaR Qa3 Qa4 QaJ QaK QaS QaT
set_option linter.unusedVariables false
set_option linter.unusedSimpArgs false
mutual
def QaA.l0 : Nat → List Int → Int → List Int → Int → Option ((List (Qae)) × Int)
 | 0, _, _, _, _ => none
 | k + 1, x3, x4, x1000, x1001 => if x4 > 0 then ((Qab.f k x1000 x1001 3).bind fun bt107 => (if x3.length < 17592186044416 then (QaA.l0 k (x3 ++ [bt107.1]) (wrap64 (x4 - 1)) x1000 bt107.2) else (none))) else (QaA.l1 k x3 0 x1000 x1001 ([] : List (Qae)))
def QaA.l1 : Nat → List Int → Int → List Int → Int → List (Qae) → Option ((List (Qae)) × Int)
 | 0, _, _, _, _, _ => none
 | k + 1, x3, x6, x1000, x1001, x113000 => if x6 < (x3.length : Int) then ((Qag.f k x1000 x1001 x3 x6).bind fun bt113 => (if x113000.length < 3518437208883 then (QaA.l1 k x3 (wrap64 (x6 + 1)) x1000 bt113.2.2.2 (x113000 ++ [(⟨bt113.1, bt113.2.1, bt113.2.2.1⟩ : Qae)])) else (none))) else (some (x113000, x1001))
end
def QaA.f (k : Nat) (s0_0 : List Int) (s0_1 : Int) : Option ((List (Qae)) × Int) := (Qab.f k s0_0 s0_1 3).bind fun bt105 => (QaA.l0 k (([0] : List Int)) (wrap64 (1 + bt105.1)) s0_0 bt105.2)
theorem QaA.mono_l : ∀ k, (∀ y0 y1 y2 y3, LeO (QaA.l0 k y0 y1 y2 y3) (QaA.l0 (k + 1) y0 y1 y2 y3)) ∧ (∀ y0 y1 y2 y3 y4, LeO (QaA.l1 k y0 y1 y2 y3 y4) (QaA.l1 (k + 1) y0 y1 y2 y3 y4))
 | 0 => ⟨fun _ _ _ _ r h => by simp [QaA.l0] at h, fun _ _ _ _ _ r h => by simp [QaA.l1] at h⟩
 | k + 1 => by
   obtain ⟨ih0, ih1⟩ := QaA.mono_l k
   refine ⟨?_, ?_⟩
   · intro y0 y1 y2 y3
     unfold QaA.l0
     repeat' first
     | (with_reducible exact ih0 _ _ _ _)
     | (with_reducible exact ih1 _ _ _ _ _)
     | (with_reducible exact Qab.mono _ _ _ _)
     | (with_reducible exact Qag.mono _ _ _ _ _)
     | (with_reducible exact LeO.refl _)
     | (with_reducible exact LeO.none _)
     | (with_reducible refine LeO.ite ?_ ?_)
     | (with_reducible refine LeO.bind ?_ (fun _ => ?_))
     | exact ih0 _ _ _ _
     | exact ih1 _ _ _ _ _
     | exact Qab.mono _ _ _ _
     | exact Qag.mono _ _ _ _ _
     | exact LeO.none _
     | refine LeO.ite ?_ ?_
     | refine LeO.bind ?_ (fun _ => ?_)
   · intro y0 y1 y2 y3 y4
     unfold QaA.l1
     repeat' first
     | (with_reducible exact ih0 _ _ _ _)
     | (with_reducible exact ih1 _ _ _ _ _)
     | (with_reducible exact Qab.mono _ _ _ _)
     | (with_reducible exact Qag.mono _ _ _ _ _)
     | (with_reducible exact LeO.refl _)
     | (with_reducible exact LeO.none _)
     | (with_reducible refine LeO.ite ?_ ?_)
     | (with_reducible refine LeO.bind ?_ (fun _ => ?_))
     | exact ih0 _ _ _ _
     | exact ih1 _ _ _ _ _
     | exact Qab.mono _ _ _ _
     | exact Qag.mono _ _ _ _ _
     | exact LeO.none _
     | refine LeO.ite ?_ ?_
     | refine LeO.bind ?_ (fun _ => ?_)
theorem QaA.mono : ∀ a0 a1 k, LeO (QaA.f k a0 a1) (QaA.f (k + 1) a0 a1) := by
 intro a0 a1 k
 obtain ⟨ih0, ih1⟩ := QaA.mono_l k
 unfold QaA.f
 repeat' first
  | (with_reducible exact ih0 _ _ _ _)
  | (with_reducible exact ih1 _ _ _ _ _)
  | (with_reducible exact Qab.mono _ _ _ _)
  | (with_reducible exact Qag.mono _ _ _ _ _)
  | (with_reducible exact LeO.refl _)
  | (with_reducible exact LeO.none _)
  | (with_reducible refine LeO.ite ?_ ?_)
  | (with_reducible refine LeO.bind ?_ (fun _ => ?_))
  | exact ih0 _ _ _ _
  | exact ih1 _ _ _ _ _
  | exact Qab.mono _ _ _ _
  | exact Qag.mono _ _ _ _ _
  | exact LeO.none _
  | refine LeO.ite ?_ ?_
  | refine LeO.bind ?_ (fun _ => ?_)
def QaA.T10 : Bool × List (List Nat × List Nat) := (true, [([], []), ([0], [0]), ([], []), ([], []), ([], []), ([2, 3, 4], [2, 3, 4]), ([5], [5]), ([1, 6, 5], [1, 6]), ([0, 1, 2, 3, 4, 5, 6, 7], []), ([8, 7, 7, 0, 1, 2, 3, 4, 5, 6, 7], [7, 8])])
def QaA.B10 : List Nat := [0, 1, 0, 0, 0, 28, 60, 127, 255, 511]
theorem QaA.tab10 : rtab .any (opsOf Try.f54 10) = QaA.T10 := by kernel_rfl
theorem QaA.bits10 : QbZ QaA.T10.2 QaA.B10 = true := by kernel_rfl
set_option maxHeartbeats 8000000 in
set_option maxRecDepth 100000 in
theorem QaA.calls (k : Nat) (g : Nat) (s0_0 : List Int) (s0_1 : Int) (r1 : List (Qae)) (r2 : Int) (w0 w : World) (hI : Qad w0 w g s0_0 s0_1) (hB : Below w0.heap.size w0 w) (h : QaA.f k s0_0 s0_1 = some (r1, r2)) :
 Calls Try.prog 54 #[.pointer (some ⟨g, 0, none⟩)] w fun e w' => ∃ v0_ : Value, e = .returned (.agg #[v0_]) ∧ Kd.S QaD 34 w' w.heap.size (fun _ => True) v0_ r1 ∧ Qad w0 w' g s0_0 r2 ∧ Below w0.heap.size w0 w' ∧ Qai w w' g none := by
 have hu25 := Try.underlying25
 have HI0 := Aside0.mk hI
 have HK := Aside0.mk (Qai.refl w g none)
 have HL := Aside0.mk hB.size
 clear hI
 have HW0 := Aside0.mk hB.size
 have HB := Aside0.mk hB
 clear hB
 have H : ((Qab.f k s0_0 s0_1 3).bind fun bt105 => (QaA.l0 k (([0] : List Int)) (wrap64 (1 + bt105.1)) s0_0 bt105.2)) = some (r1, r2) := h
 clear h
 obtain ⟨y102, hy102⟩ : ∃ y_ : List Int, y_ = (([0] : List Int)) := ⟨_, rfl⟩
 replace H : ((Qab.f k s0_0 s0_1 3).bind fun bt105 => (QaA.l0 k y102 (wrap64 (1 + bt105.1)) s0_0 bt105.2)) = some (r1, r2) := by first | (rw [hy102]; with_reducible exact H) | (have H2_ := (Option.bind_some _ _).symm.trans H; rw [hy102]; with_reducible exact H2_) | (have H2_ := (Option.bind_some _ _).symm.trans H; with_reducible exact H2_) | with_reducible exact H | (rw [hy102]; exact H) | exact H
 have Ny102 := Aside0.mk hy102
 clear hy102
 replace H := Option.bind_eq_some_iff.mp H
 obtain ⟨⟨t105, t106⟩, A20, H⟩ := H
 replace H : (QaA.l0 k y102 (wrap64 (1 + t105)) s0_0 t106) = some (r1, r2) := H
 have A2 := Aside0.mk A20
 clear A20
 have H' := Aside0.mk H
 clear H
 go_enter Try.func54, Try.ntmps54
 go_wp2_with (first | ((with_reducible refine QaH (N := 2) rfl ?_); refine QaN ?hg (N := 2) ?hd (cs := #[.slice none 0 0]) (t := 25) ?hr ?_; (case hd => rfl); (case hg => rfl); (case hr => first | (go_simp; done) | (go_simp; rfl)); intro gb101 hg w3 hbox hb; have n0_ := Aside0.mk (Qad.below (ki_) hb); have n1_ := Aside0.mk (Qai.trans (kk_) (Qai.of_below hb g none) (.inl rfl)); have n2_ := Aside0.mk (Qap (bx_) hb); have n3_ := Aside0.mk (hbox); have n4_ := Aside0.mk ((by rw [hg]; exact (QaC (w := w) (g := g) (row := none) (kk_)) : w.heap.size ≤ gb101)); have n5_ := Aside0.mk ((Nat.le_trans HW0.out (by rw [hg]; exact (QaC (w := w) (g := g) (row := none) (kk_)) : w.heap.size ≤ gb101) : w0.heap.size ≤ gb101)); have n6_ := Aside0.mk ((by rw [hg]; exact Nat.ne_of_lt (Qad.lt (show Qad w0 _ g s0_0 s0_1 from ki_)) : g ≠ gb101)); have n7_ := Aside0.mk ((by rw [hg]; exact Nat.ne_of_gt (Qad.lt (show Qad w0 _ g s0_0 s0_1 from ki_)) : gb101 ≠ g)); clear HI0; clear HK; clear HB; have HI0 := n0_; have HK := n1_; have HB := n2_; have BK101 := n3_; have GW101 := n4_; have GE101 := n5_; have NB0_101 := n6_; have NB101_0 := n7_; clear n0_ n1_ n2_ n3_ n4_ n5_ n6_ n7_; clear hb hbox hg) | ((with_reducible refine QaH (N := 7) rfl ?_); refine Kd.R_lit (Kd.int .i64) _ 3 ?hg (N := 7) ?hd (xs := ([0] : List Int)) (inner := [.int .i64 0]) (ok := fun _ => True) (okp := fun _ => True) ?hr ?hp (fun _ hk => hk) trivial (Below.refl _ _) (Nat.le_refl _) (by simp) ?_; (case hd => rfl); (case hg => rfl); (case hr => first | (go_simp; done) | (go_simp; rfl)); (case hp => exact (Qa9.one (show Kd.M (Kd.int .i64) _ _ _ 0 [.int .i64 0] from rfl) (Qa9.none _ _))); intro v103 w4 ho5 hb hg_ hnew_; clear hg_ hnew_; (first | rw [← Ny102.out] at ho5 | (simp only [Int.reduceToNat] at ho5; rw [← Ny102.out] at ho5)); have n0_ := Aside0.mk (Kd.R_lower ho5 (QaC (w := w) (g := g) (row := none) (kk_))); have n1_ := Aside0.mk (Qad.below (ki_) hb); have n2_ := Aside0.mk (bb_ BK101 hb); have n3_ := Aside0.mk (Qai.trans (kk_) (Qai.of_below hb g none) (.inl rfl)); have n4_ := Aside0.mk (Qap (bx_) hb); clear HI0; clear BK101; clear HK; clear HB; have HO104 := n0_; have HI0 := n1_; have BK101 := n2_; have HK := n3_; have HB := n4_; clear n0_ n1_ n2_ n3_ n4_; clear hb ho5) | ((with_reducible refine Qax (f := 55) rfl ?_); refine QaX (some 9) rfl rfl Try.func55 (by kernel_rfl) rfl #[.pointer (some ⟨g, 0, none⟩), .int .i64 3] rfl (by (try simp only [List.map_toArray, List.map_cons, List.map_nil]); first | done | rfl | (simp only [List.length_drop, List.length_take]; rfl)) ?_; (with_reducible refine (Qab.calls k g s0_0 s0_1 3 t105 t106 w0 _ ?side1 ?side2 A2.out).mono ?_); (case side1 => repeat (first | (with_reducible first | exact HI0.out | apply Qad.alloc | apply Qad.drewN | apply Qad.drew | apply Qad.set_1 | refine Qad.far ?_ NB0_101.out _) | exact HI0.out)); (case side2 => repeat (first | (with_reducible first | exact HB.out | apply Qal | apply Qar | apply Qav | refine Qaw ?_ (Qad.ge HI0.out) | refine Qaw ?_ GE101.out) | exact HB.out)); rintro e w6 ⟨rfl, hi, hb, hk⟩; refine ⟨_, rfl, ?_⟩; have n0_ := Aside0.mk (Qai.blk hk (g' := gb101) (o := .cells #[.slice none 0 0] 25 (0, 0)) (by (refine kb_ ?_); exact BK101.out) NB101_0.out (by simp)); have n1_ := Aside0.mk (Kd.R_mono (Kd.R_keep (Qad.apart (show Qad w0 _ g s0_0 s0_1 from ki_) (by (refine QaP ?_); exact HO104.out) (by decide)) hk (fun _ h => h.2)) (fun _ h => h.1)); have n2_ := Aside0.mk (Qai.trans (kk_) hk (.inl rfl)); have n3_ := Aside0.mk (hb); have n4_ := Aside0.mk (hi); clear BK101; clear HO104; clear HK; clear HB; clear HI0; have BK101 := n0_; have HO104 := n1_; have HK := n2_; have HB := n3_; have HI0 := n4_; clear n0_ n1_ n2_ n3_ n4_; (try clear hb); (try clear hb2); (try clear hk); (try clear hi)))
 go_loopg [3, 4] k (fun kq v3 v4 w' => ∃ (x3_1 : List Int) (x4_1 : Int) (x1001_1 : Int), v4 = .int .i64 x4_1 ∧ Aside0 (QaA.l0 kq x3_1 x4_1 s0_0 x1001_1 = some (r1, r2)) ∧ Aside0 (kq ≤ k) ∧ Aside0 (Kd.R (Kd.int .i64) 3 w' w.heap.size (fun _ => True) v3 x3_1) ∧ Aside0 (w'.heap[gb101]? = some (.cells #[(.slice none 0 0)] 25 (0, 0))) ∧ Aside0 (Qad w0 w' g s0_0 x1001_1) ∧ Aside0 (Qai w w' g none) ∧ Aside0 (Below w0.heap.size w0 w'))
 case atStart => exact ⟨(y102), (wrap64 (1 + t105)), (t106), (by first | rfl | (simp; done) | (simp [*]; done)), H', ⟨Nat.le_refl _⟩, ⟨by (refine QaP ?_); exact HO104.out⟩, ⟨by (refine kb_ ?_); exact BK101.out⟩, ⟨ki_⟩, ⟨kk_⟩, ⟨bx_⟩⟩
 case round =>
  clear H'
  try clear p2
  try clear c5
  try clear p6
  obtain ⟨x3_1, x4_1, x1001_1, rfl, HA, HK1, HO_3, BK101, HI0, HK, HB⟩ := hrel
  cases gk with
  | zero => exact absurd HA.out (by simp [QaA.l0])
  | succ k1 =>
    have H := HA.out
    clear HA
    simp only [QaA.l0] at H
    by_cases c7 : x4_1 > 0
    · rw [if_pos c7] at H
      have c7b0 : decide (0 < x4_1) = true := decide_eq_true c7
      clear c7
      replace H := Option.bind_eq_some_iff.mp H
      obtain ⟨⟨t107, t108⟩, A80, H⟩ := H
      replace H : (if x3_1.length < 17592186044416 then (QaA.l0 k1 (x3_1 ++ [t107]) (wrap64 (x4_1 - 1)) s0_0 t108) else (none)) = some (r1, r2) := H
      have A8 := Aside0.mk A80
      clear A80
      by_cases c9 : x3_1.length < 17592186044416
      · rw [if_pos c9] at H
        have LMc9 := Aside0.mk c9
        clear c9
        obtain ⟨y109, hy109⟩ : ∃ y_ : List Int, y_ = (x3_1 ++ [t107]) := ⟨_, rfl⟩
        replace H : (QaA.l0 k1 y109 (wrap64 (x4_1 - 1)) s0_0 t108) = some (r1, r2) := by first | (rw [hy109]; with_reducible exact H) | (have H2_ := (Option.bind_some _ _).symm.trans H; rw [hy109]; with_reducible exact H2_) | (have H2_ := (Option.bind_some _ _).symm.trans H; with_reducible exact H2_) | with_reducible exact H | (rw [hy109]; exact H) | exact H
        have Ny109 := Aside0.mk hy109
        clear hy109
        have H' := Aside0.mk H
        clear H
        go_wp2_with (first | ((with_reducible refine Qax (f := 55) rfl ?_); refine QaX (some 17) rfl rfl Try.func55 (by kernel_rfl) rfl #[.pointer (some ⟨g, 0, none⟩), .int .i64 3] rfl (by (try simp only [List.map_toArray, List.map_cons, List.map_nil]); first | done | rfl | (simp only [List.length_drop, List.length_take]; rfl)) ?_; (with_reducible refine (Qab.calls k1 g s0_0 x1001_1 3 t107 t108 w0 _ ?side1 ?side2 A8.out).mono ?_); (case side1 => repeat (first | (with_reducible first | exact HI0.out | apply Qad.alloc | apply Qad.drewN | apply Qad.drew | apply Qad.set_1 | refine Qad.far ?_ NB0_101.out _) | exact HI0.out)); (case side2 => repeat (first | (with_reducible first | exact HB.out | apply Qal | apply Qar | apply Qav | refine Qaw ?_ (Qad.ge HI0.out) | refine Qaw ?_ GE101.out) | exact HB.out)); rintro e w10 ⟨rfl, hi, hb, hk⟩; refine ⟨_, rfl, ?_⟩; have n0_ := Aside0.mk (Kd.R_mono (Kd.R_keep (Qad.apart (show Qad w0 _ g s0_0 x1001_1 from ki_) (by (refine QaP ?_); exact HO_3.out) (by decide)) hk (fun _ h => h.2)) (fun _ h => h.1)); have n1_ := Aside0.mk (Qai.blk hk (g' := gb101) (o := .cells #[.slice none 0 0] 25 (0, 0)) (by (refine kb_ ?_); exact BK101.out) NB101_0.out (by simp)); have n2_ := Aside0.mk (Qai.trans (kk_) hk (.inl rfl)); have n3_ := Aside0.mk (hb); have n4_ := Aside0.mk (hi); clear HO_3; clear BK101; clear HK; clear HB; clear HI0; have HO_3 := n0_; have BK101 := n1_; have HK := n2_; have HB := n3_; have HI0 := n4_; clear n0_ n1_ n2_ n3_ n4_; (try clear hb); (try clear hb2); (try clear hk); (try clear hi)) | ((with_reducible refine QaW (b := .append) (xs := #[.tmp 15, .tmp 18]) rfl ?_); at_builtin; refine Kd.R_append (Kd.int .i64) w.heap.size rfl (.tmp 15) (.tmp 18) 28 3 (.int .i64 0) 8 rfl Try.underlying28 info3 rfl (by decide) (by omega) u3 x3_1 t107 [.int .i64 t107] (fun _ => True) (fun _ => False) rfl rfl ?aP (fun _ hk => hk.elim) ?aF ?aO (Below.refl _ _) ?aS ?aL ?_; (case aP => exact rfl); (case aF => exact (fun _ _ => trivial)); (case aO => exact (by (refine QaP ?_); exact HO_3.out)); (case aS => exact (QaC (w := w) (g := g) (row := none) (kk_))); (case aL => have := LMc9.out; omega); intro v110 w11 ho hb hg hat; rw [← Ny109.out] at ho; have n0_ := Aside0.mk (QaU (g := gb101) (o := .cells #[.slice none 0 0] 25 (0, 0)) (by (refine kb_ ?_); exact BK101.out) hg (Kd.R_ne HO_3.out BK101.out (by decide))); have n1_ := Aside0.mk (Qad.grown (ki_) hg (Qad.own_ne HI0.out HO_3.out (by decide))); have n2_ := Aside0.mk (Qa5 (bx_) HL.out hb); have n3_ := Aside0.mk (Qai.trans (kk_) (Qai.of_grown hg g) (Kd.R_base2 HO_3.out)); have n4_ := Aside0.mk (ho); clear BK101; clear HI0; clear HB; clear HK; clear HO_3; have BK101 := n0_; have HI0 := n1_; have HB := n2_; have HK := n3_; have HO111 := n4_; clear n0_ n1_ n2_ n3_ n4_; clear ho hb hg hat))
        go_roundg k1
        case measure => have := HK1.out; omega
        case rel => exact ⟨(y109), (wrap64 (x4_1 - 1)), (t108), (by first | rfl | (simp; done) | (simp [*]; done)), H', ⟨by have := HK1.out; omega⟩, ⟨by (refine QaP ?_); exact HO111.out⟩, ⟨by (refine kb_ ?_); exact BK101.out⟩, ⟨ki_⟩, ⟨kk_⟩, ⟨bx_⟩⟩
      · rw [if_neg c9] at H
        exact absurd H (by simp)
    · rw [if_neg c7] at H
      have c7b0 : decide (0 < x4_1) = false := decide_eq_false c7
      clear c7
      have H' := Aside0.mk H
      clear H
      go_wp2_with (first | ((with_reducible refine QaH (N := 5) rfl ?_); refine QaN ?hg (N := 5) ?hd (cs := #[.slice none 0 0]) (t := 25) ?hr ?_; (case hd => rfl); (case hg => rfl); (case hr => first | (go_simp; done) | (go_simp; rfl)); intro gb112 hg w12 hbox hb; have n0_ := Aside0.mk (Kd.R_below (by (refine QaP ?_); exact HO_3.out) hb); have n1_ := Aside0.mk (bb_ BK101 hb); have n2_ := Aside0.mk (Qad.below (ki_) hb); have n3_ := Aside0.mk (Qai.trans (kk_) (Qai.of_below hb g none) (.inl rfl)); have n4_ := Aside0.mk (Qap (bx_) hb); have n5_ := Aside0.mk (hbox); have n6_ := Aside0.mk ((by rw [hg]; exact (QaC (w := w) (g := g) (row := none) (kk_)) : w.heap.size ≤ gb112)); have n7_ := Aside0.mk ((Nat.le_trans HW0.out (by rw [hg]; exact (QaC (w := w) (g := g) (row := none) (kk_)) : w.heap.size ≤ gb112) : w0.heap.size ≤ gb112)); have n8_ := Aside0.mk ((nl_ hg BK101 : gb101 ≠ gb112)); have n9_ := Aside0.mk ((ng_ hg BK101 : gb112 ≠ gb101)); have n10_ := Aside0.mk ((by rw [hg]; exact Nat.ne_of_lt (Qad.lt (show Qad w0 _ g s0_0 x1001_1 from ki_)) : g ≠ gb112)); have n11_ := Aside0.mk ((by rw [hg]; exact Nat.ne_of_gt (Qad.lt (show Qad w0 _ g s0_0 x1001_1 from ki_)) : gb112 ≠ g)); clear HO_3; clear BK101; clear HI0; clear HK; clear HB; have HO_3 := n0_; have BK101 := n1_; have HI0 := n2_; have HK := n3_; have HB := n4_; have BK112 := n5_; have GW112 := n6_; have GE112 := n7_; have NB101_112 := n8_; have NB112_101 := n9_; have NB0_112 := n10_; have NB112_0 := n11_; clear n0_ n1_ n2_ n3_ n4_ n5_ n6_ n7_ n8_ n9_ n10_ n11_; clear hb hbox hg; have hnb13 := NB112_101.out; have hnc13 := NB101_112.out; have hnb14 := NB112_0.out; have hnc14 := NB0_112.out; obtain ⟨hcz15_0, hfz15_0⟩ := blkF1_ BK112.out))
      go_loopg [6] k1 (fun kq v6 w' => ∃ (x6_2 : Int) (x1001_2 : Int) (x113000_2 : List (Qae)) (u113000 : Value), v6 = .int .i64 x6_2 ∧ Aside0 (QaA.l1 kq x3_1 x6_2 s0_0 x1001_2 x113000_2 = some (r1, r2)) ∧ Aside0 (kq ≤ k1) ∧ Aside0 (Kd.R (Kd.int .i64) 3 w' w.heap.size (fun _ => True) u3 x3_1) ∧ Aside0 (Kd.S QaD 34 w' w.heap.size (fun _ => True) u113000 x113000_2) ∧ Aside0 (w'.heap[gb101]? = some (.cells #[(.slice none 0 0)] 25 (0, 0))) ∧ Aside0 (w'.heap[gb112]? = some (.cells #[u113000] 25 (0, 0))) ∧ Aside0 (Qad w0 w' g s0_0 x1001_2) ∧ Aside0 (Qai w w' g none) ∧ Aside0 (Below w0.heap.size w0 w'))
      case atStart => exact ⟨(0), (x1001_1), (([] : List (Qae))), (.slice none 0 0), (by first | rfl | (simp; done) | (simp [*]; done)), H', ⟨Nat.le_refl _⟩, ⟨by (refine QaP ?_); exact Kd.R_mono (Kd.R_far (p := ⟨gb112, 0, none⟩) (Kd.R_types HO_3.out BK112.out (by decide)) (fun _ hk => hk.2) (.slice none 0 0)) (fun _ hk => trivial)⟩, ⟨by first | exact Kd.S_nil _ _ _ _ _ | exact Kd.N_nil _ _ _ _ _ | exact Kd.V_nil _ _ _ _ _ | exact Kd.Q_nil _ _ _ _ _ | exact Kd.R_nil _ _ _ _ _⟩, ⟨by (refine kb_ ?_); refine Qbe ?_ NB101_112.out _; (refine kb_ ?_); exact BK101.out⟩, ⟨by (refine kb_ ?_); refine Qbc (cs := #[.slice none 0 0]) ?_ 0 _ rfl; (refine kb_ ?_); exact BK112.out⟩, ⟨ki_⟩, ⟨kk_⟩, ⟨bx_⟩⟩
      case round =>
       clear H'
       try clear c1
       try clear p2
       try clear c5
       try clear p6
       try clear c7
       try clear c7b0
       try clear c9
       try clear c13
       try clear c14
       try clear hcz15_0
       try clear hfz15_0
       try clear p2
       try clear p6
       obtain ⟨x6_2, x1001_2, x113000_2, u113000, rfl, HA, HK2, HO_3, HO_113000, BK101, BK112, HI0, HK, HB⟩ := hrel
       cases gk with
       | zero => exact absurd HA.out (by simp [QaA.l1])
       | succ k2 =>
         have H := HA.out
         clear HA
         simp only [QaA.l1] at H
         by_cases c16 : x6_2 < (x3_1.length : Int)
         · rw [if_pos c16] at H
           have c16b0 : decide (x6_2 < (x3_1.length : Int)) = true := decide_eq_true c16
           clear c16
           replace H := Option.bind_eq_some_iff.mp H
           obtain ⟨⟨t113, t114, t115, t118⟩, A170, H⟩ := H
           replace H : (if x113000_2.length < 3518437208883 then (QaA.l1 k2 x3_1 (wrap64 (x6_2 + 1)) s0_0 t118 (x113000_2 ++ [(⟨t113, t114, t115⟩ : Qae)])) else (none)) = some (r1, r2) := H
           have A17 := Aside0.mk A170
           clear A170
           by_cases c18 : x113000_2.length < 3518437208883
           · rw [if_pos c18] at H
             have LMc18 := Aside0.mk c18
             clear c18
             obtain ⟨y119, hy119⟩ : ∃ y_ : List (Qae), y_ = (x113000_2 ++ [(⟨t113, t114, t115⟩ : Qae)]) := ⟨_, rfl⟩
             replace H : (QaA.l1 k2 x3_1 (wrap64 (x6_2 + 1)) s0_0 t118 y119) = some (r1, r2) := by first | (rw [hy119]; with_reducible exact H) | (have H2_ := (Option.bind_some _ _).symm.trans H; rw [hy119]; with_reducible exact H2_) | (have H2_ := (Option.bind_some _ _).symm.trans H; with_reducible exact H2_) | with_reducible exact H | (rw [hy119]; exact H) | exact H
             have Ny119 := Aside0.mk hy119
             clear hy119
             have H' := Aside0.mk H
             clear H
             obtain ⟨Ao19, co19, eo19⟩ := Kd.R_slice HO_3.out
             subst eo19
             try go_wp2
             have n0_ := Aside0.mk (Kd.R_drew HO_3.out)
             have n1_ := Aside0.mk (Kd.S_drew HO_113000.out)
             have n2_ := Aside0.mk (Qbf BK101.out)
             have n3_ := Aside0.mk (Qbf BK112.out)
             have n4_ := Aside0.mk (Qad.drew HI0.out)
             have n5_ := Aside0.mk (Qcp HK.out)
             have n6_ := Aside0.mk (Qav HB.out)
             clear HO_3
             clear HO_113000
             clear BK101
             clear BK112
             clear HI0
             clear HK
             clear HB
             have HO_3 := n0_
             have HO_113000 := n1_
             have BK101 := n2_
             have BK112 := n3_
             have HI0 := n4_
             have HK := n5_
             have HB := n6_
             clear n0_ n1_ n2_ n3_ n4_ n5_ n6_
             refine Qch (n := 10) (S := fun w' => w'.cell? ⟨gb112, 0, none⟩ = some (u113000)) (ds := [9]) #[false, false, false, false, false, false, false, false, false, false] (by kernel_rfl) rfl rfl ((Qaf BK112.out 0).trans rfl) (fun hHeld => ?_); refine Qby QaA.tab10 QaA.bits10 (fun HT_ HW_ => ?_)
             generalize wr.drew = w20 at HO_3 HO_113000 BK101 BK112 HI0 HK HB hHeld ⊢
             refine pu_ 0 (some 27) #[true, false, false, false, false, false, false, false, false, false] rfl rfl ?_
             refine pu_ 2 (some 29) #[true, false, true, false, false, false, false, false, false, false] rfl rfl ?_
             refine pu_ 3 (some 30) #[true, false, true, true, false, false, false, false, false, false] rfl rfl ?_
             refine pu_ 4 (some 31) #[true, false, true, true, true, false, false, false, false, false] rfl rfl ?_
             refine tk_ 1 (some 28) #[true, true, true, true, true, false, false, false, false, false] rfl rfl hHeld ?_
             refine one_ (i := 5) (N := some 32) #[true, true, true, true, true, true, false, false, false, false] rfl rfl (Qbw HT_.out (by kernel_rfl)) (by decide) (fun K hK => ?_)
             refine goes_ Try.func101 (by kernel_rfl) rfl #[.pointer (some ⟨g, 0, none⟩), .slice Ao19 x3_1.length co19, .int .i64 x6_2] (by rfl) rfl rfl (by (try simp only [List.map_toArray, List.map_cons, List.map_nil]); first | done | rfl | (simp only [List.length_drop, List.length_take]; rfl)) ?_
             with_reducible refine (Qag.calls k2 g s0_0 x1001_2 _ _ x3_1 x6_2 t113 t114 t115 t118 w0 _ ?side1 ?side2 ?side3 ?side4 ?side5 A17.out).mono ?_
             (case side1 => repeat (first | (with_reducible first | exact HI0.out | apply Qad.alloc | apply Qad.drewN | apply Qad.drew | apply Qad.set_1 | refine Qad.far ?_ NB0_101.out _ | refine Qad.far ?_ NB0_112.out _) | exact HI0.out))
             (case side2 => repeat (first | (with_reducible first | exact HB.out | apply Qal | apply Qar | apply Qav | refine Qaw ?_ (Qad.ge HI0.out) | refine Qaw ?_ GE101.out | refine Qaw ?_ GE112.out) | exact HB.out))
             (case side3 => repeat (first | exact (Kd.R_reads' HO_3.out).2.2 | (with_reducible refine Kd.C_alloc ?_ _) | (with_reducible refine Kd.C_drewN ?_ _) | (with_reducible refine Kd.C_drew ?_)))
             (case side4 => exact (Kd.R_reads' HO_3.out).2.1)
             (case side5 => exact far_slice (Qad.own_ne HI0.out HO_3.out (by decide)))
             rintro e w21 ⟨v116, rfl, ho0, hi, hb, hk⟩
             refine ⟨_, rfl, ?_⟩
             have n0_ := Aside0.mk (Kd.R_mono (Kd.R_keep (Qad.apart (show Qad w0 _ g s0_0 x1001_2 from ki_) (by (refine QaP ?_); exact HO_3.out) (by decide)) hk (fun _ h => h.2)) (fun _ h => h.1))
             have n1_ := Aside0.mk (Kd.S_mono (Kd.S_told (Kd.S_oldK (Qad.apartS (show Qad w0 _ g s0_0 x1001_2 from ki_) (by (refine kdS_ ?_); exact HO_113000.out) (by decide)) hk) (Kd.R_base ho0)) (fun _ h_ => h_.1))
             have n2_ := Aside0.mk (Qai.blk hk (g' := gb101) (o := .cells #[.slice none 0 0] 25 (0, 0)) (by (refine kb_ ?_); exact BK101.out) NB101_0.out (by simp))
             have n3_ := Aside0.mk (Qai.blk hk (g' := gb112) (o := .cells #[u113000] 25 (0, 0)) (by (refine kb_ ?_); exact BK112.out) NB112_0.out (by simp))
             have n4_ := Aside0.mk (Kd.R_lower ho0 (QaC (w := w) (g := g) (row := none) (kk_)))
             have n5_ := Aside0.mk (Qai.trans (kk_) hk (.inl rfl))
             have n6_ := Aside0.mk (hb)
             have n7_ := Aside0.mk (hi)
             clear HO_3
             clear HO_113000
             clear BK101
             clear BK112
             clear HK
             clear HB
             clear HI0
             have HO_3 := n0_
             have HO_113000 := n1_
             have BK101 := n2_
             have BK112 := n3_
             have HO117 := n4_
             have HK := n5_
             have HB := n6_
             have HI0 := n7_
             clear n0_ n1_ n2_ n3_ n4_ n5_ n6_ n7_
             (try clear hb)
             (try clear hb2)
             (try clear hk)
             (try clear hi)
             (try clear ho0)
             obtain ⟨Ao23, co23, eo23⟩ := Kd.R_slice HO117.out
             (first | subst eo23 | (injection eo23 with f1_ f2_ f3_; have f4_ := f1_.symm; have f5_ := f3_.symm; clear f1_ f2_ f3_; subst f4_; subst f5_))
             refine hK.out _ _ ((Qaf BK112.out 0).trans rfl) (fun hHeld => ?_)
             clear hK K
             refine Qbo (a' := ?_) ?_ ?_
             rotate_left
             · show Act.put _ (some 32) _ = _
               simp only [Act.put, List.setIfInBounds_toArray, List.set_cons_zero, List.set_cons_succ, Qbb, Qbd]
               rfl
             refine one_ (i := 6) (N := some 33) #[true, true, true, true, true, true, true, false, false, false] rfl rfl (Qbw HT_.out (by kernel_rfl)) (by decide) (fun K hK => ?_)
             refine value_ (w1 := ?_) (v := ?_) (by rfl) rfl ?_ ?_
             rotate_left 2
             · go_simp
               constructor
               · rfl
               · rfl
             refine hK.out _ _ ((Qaf (Qb7 BK112.out _) 0).trans rfl) (fun hHeld => ?_)
             clear hK K
             refine Qbo (a' := ?_) ?_ ?_
             rotate_left
             · show Act.put _ (some 33) _ = _
               simp only [Act.put, List.setIfInBounds_toArray, List.set_cons_zero, List.set_cons_succ, Qbb, Qbd]
               rfl
             refine one_ (i := 7) (N := some 34) #[true, true, true, true, true, true, true, true, false, false] rfl rfl (Qbw HT_.out (by kernel_rfl)) (by decide) (fun K hK => ?_)
             refine Kd.S_append_step QaD w.heap.size (by rfl) (.tmp 28) (.tmp 33) 23 34 (.agg #[(.int .i64 0), (.int .i64 0), (.slice none 0 0)]) 40 rfl Try.underlying23 info34 rfl (by decide) (by omega) u113000 x113000_2 (⟨t113, t114, t115⟩ : Qae) [.int .i64 t113, .int .i64 t114, .slice Ao23 t115.length co23] (fun _ => True) (fun k_ => some k_ = (.slice Ao23 t115.length co23 : Value).ownBlock) rfl rfl ?aP (fun k_ hk_ => ((Kd.R_mono (ok' := fun k_ => ((fun _ => True)) k_ ∧ some k_ ≠ (u113000 : Value).ownBlock) (Kd.R_apart' (HO117.out) (Kd.S_typed HO_113000.out) (by decide)) (fun k_ hk => ⟨trivial, hk.2⟩))).1 k_ hk_.symm) ?aF ?aO (Below.refl _ _) ?aS ?aL ?_
             (case aP => exact k_impl_Method_mkM _ _ _ (⟨t113, t114, t115⟩ : Qae) (Kd.R_mono (Kd.R_tight rfl (Kd.R_mono (ok' := fun k_ => ((fun _ => True)) k_ ∧ some k_ ≠ (u113000 : Value).ownBlock) (Kd.R_apart' (HO117.out) (Kd.S_typed HO_113000.out) (by decide)) (fun k_ hk => ⟨trivial, hk.2⟩))) (fun _ h_ => h_)))
             (case aF => exact (fun _ _ => trivial))
             (case aO => exact (by (refine kdS_ ?_); exact Kd.S_mono HO_113000.out (fun k_ hk => ⟨trivial, fun e_ => hk.2 e_⟩)))
             (case aS => exact (QaC (w := w) (g := g) (row := none) (kk_)))
             (case aL => have := LMc18.out; omega)
             intro v120 w22 ho hb hg hat
             rw [← Ny119.out] at ho
             have n0_ := Aside0.mk (Kd.R_over' (by (refine QaP ?_); exact HO_3.out) (Kd.S_typed (by (refine kdS_ ?_); exact HO_113000.out)) (by decide) hg)
             have n1_ := Aside0.mk (QaU (g := gb101) (o := .cells #[.slice none 0 0] 25 (0, 0)) (by (refine kb_ ?_); exact BK101.out) hg (Kd.S_ne HO_113000.out BK101.out (by decide)))
             have n2_ := Aside0.mk (QaU (g := gb112) (o := .cells #[u113000] 25 (0, 0)) (by (refine kb_ ?_); exact BK112.out) hg (Kd.S_ne HO_113000.out BK112.out (by decide)))
             have n3_ := Aside0.mk (Qad.grown (ki_) hg (Qad.own_neS HI0.out HO_113000.out (by decide)))
             have n4_ := Aside0.mk (Qa5 (bx_) HL.out hb)
             have n5_ := Aside0.mk (Qai.trans (kk_) (Qai.of_grown hg g) (Kd.S_base2 HO_113000.out))
             have n6_ := Aside0.mk (ho)
             clear HO_3
             clear BK101
             clear BK112
             clear HI0
             clear HB
             clear HK
             clear HO_113000
             clear HO117
             have HO_3 := n0_
             have BK101 := n1_
             have BK112 := n2_
             have HI0 := n3_
             have HB := n4_
             have HK := n5_
             have HO121 := n6_
             clear n0_ n1_ n2_ n3_ n4_ n5_ n6_
             clear ho hb hg hat
             obtain ⟨Ao24, co24, eo24⟩ := Kd.S_slice HO121.out
             (first | subst eo24 | (injection eo24 with f1_ f2_ f3_; have f4_ := f1_.symm; have f5_ := f3_.symm; clear f1_ f2_ f3_; subst f4_; subst f5_))
             refine hK.out _ _ ((Qaf BK112.out 0).trans rfl) (fun hHeld => ?_)
             clear hK K
             refine Qbo (a' := ?_) ?_ ?_
             rotate_left
             · show Act.put _ (some 34) _ = _
               simp only [Act.put, List.setIfInBounds_toArray, List.set_cons_zero, List.set_cons_succ, Qbb, Qbd]
               rfl
             refine pu_ 8 (some 35) #[true, true, true, true, true, true, true, true, true, false] rfl rfl ?_
             refine last_ (i := 9) (N := none) #[true, true, true, true, true, true, true, true, true, true] rfl rfl (Qbw HT_.out (by kernel_rfl)) (by decide) (fun K hK => ?_)
             have hs25 : w22.cell? ⟨gb112, 0, none⟩ = some (u113000) := (Qaf BK112.out 0).trans rfl
             have hfs25 := Qaj BK112.out 0
             have hns25_0 := NB101_112.out
             have hms25_0 := NB112_101.out
             refine skip_ (w1 := ?_) (by rfl) rfl ?_ ?_
             rotate_left
             · go_simp
               rfl
             refine hK.out _ _ ?_
             clear hK K
             refine done_ (QbY HT_.out (by kernel_rfl)) ?_
             try go_wp2
             go_roundg k2
             case measure => have := HK1.out; have := HK2.out; omega
             case rel => exact ⟨(wrap64 (x6_2 + 1)), (t118), (y119), (.slice Ao24 y119.length co24), (by first | rfl | (simp; done) | (simp [*]; done)), H', ⟨by have := HK1.out; have := HK2.out; omega⟩, ⟨by (refine QaP ?_); exact Kd.R_mono (Kd.R_far (p := ⟨gb112, 0, none⟩) (Kd.R_types HO_3.out BK112.out (by decide)) (fun _ hk => hk.2) (.slice Ao24 y119.length co24)) (fun _ hk => trivial)⟩, ⟨by (refine kdS_ ?_); exact Kd.S_mono (Kd.S_far (p := ⟨gb112, 0, none⟩) (Kd.S_types HO121.out BK112.out (by decide)) (fun _ hk => hk.2) (.slice Ao24 y119.length co24)) (fun _ hk => trivial)⟩, ⟨by (refine kb_ ?_); refine Qbe ?_ NB101_112.out _; (refine kb_ ?_); exact BK101.out⟩, ⟨by (refine kb_ ?_); refine Qbc (cs := #[u113000]) ?_ 0 _ rfl; (refine kb_ ?_); exact BK112.out⟩, ⟨ki_⟩, ⟨kk_⟩, ⟨bx_⟩⟩
           · rw [if_neg c18] at H
             exact absurd H (by simp)
         · rw [if_neg c16] at H
           have c16b0 : decide (x6_2 < (x3_1.length : Int)) = false := decide_eq_false c16
           clear c16
           simp only [Option.some.injEq, Prod.mk.injEq] at H
           obtain ⟨rfl, rfl⟩ := H
           obtain ⟨Ao26, co26, eo26⟩ := Kd.R_slice HO_3.out
           subst eo26
           have hnb27 := NB112_101.out
           have hnc27 := NB101_112.out
           have hnb28 := NB112_0.out
           have hnc28 := NB0_112.out
           have hcz29_0 : wr.cell? ⟨gb112, 0, none⟩ = some (u113000) := (Qaf BK112.out 0).trans rfl
           have hfz29_0 := Qaj BK112.out 0
           obtain ⟨Ao30, co30, eo30⟩ := Kd.S_slice HO_113000.out
           subst eo30
           have hnb31 := NB101_0.out
           have hnc31 := NB0_101.out
           have hcz32_0 : wr.cell? ⟨gb101, 0, none⟩ = some (.slice none 0 0) := (Qaf BK101.out 0).trans rfl
           have hfz32_0 := Qaj BK101.out 0
           go_wp2
           refine bodyPost_ret (results_cell_row rfl _ _ gb101 25 #[.slice Ao30 x113000_2.length co30] (0, 0) _ rfl (by (refine kb_ ?_); refine Qbc (cs := #[.slice none 0 0]) ?_ 0 _ rfl; (refine kb_ ?_); exact BK101.out) Try.underlying25 rfl (by kernel_rfl)) rfl ?_
           exact ⟨_, by first | rfl | (simp [Qan, Qao] <;> rfl) | (simp [*, Qan, Qao] <;> rfl), by (refine kdS_ ?_); exact Kd.S_mono (Kd.S_far (p := ⟨gb101, 0, none⟩) (Kd.S_types HO_113000.out BK101.out (by decide)) (fun _ hk => hk.2) (.slice Ao30 x113000_2.length co30)) (fun _ hk => trivial), ki_, bx_, kk_⟩
end Go.Proofs.Ytabcijheemjplaa.G
namespace Go.Proofs.Ytabcijheemjplaa.G
open Go.RowKit Go.Proofs.YtabcijheemjplaaW.PrintWords Go.Proofs.YtabcijheemjplaaW.PrintLast Go.Proofs.YtabcijheemjplaaW.PrintMore
attribute [local go_sem] QaQ QaR Qa3 Qa4 QaJ QaK QaS QaT
set_option linter.unusedVariables false
set_option linter.unusedSimpArgs false
def QaM.f (a0 : Int) (a1 : Int) (a2 : Int) : Option (Bool) := if a0 ≥ a1 then (some (decide (a0 ≤ a2))) else (some false)
set_option maxHeartbeats 8000000 in
set_option maxRecDepth 100000 in
theorem QaM.calls (a0 : Int) (a1 : Int) (a2 : Int) (r : Bool) (w : World) (h : QaM.f a0 a1 a2 = some r) :
 Calls Try.prog 58 #[.int .i64 a0, .int .i64 a1, .int .i64 a2] w fun e w' => e = .returned (.bool r) ∧ Qbv w w' := by
 have H : (if a0 ≥ a1 then (some (decide (a0 ≤ a2))) else (some false)) = some r := h
 clear h
 by_cases c4 : a0 ≥ a1
 · rw [if_pos c4] at H
   have c4b0 : decide (a1 ≤ a0) = true := decide_eq_true c4
   clear c4
   obtain rfl := Option.some.inj H
   go_enter Try.func58, Try.ntmps58
   go_wp2
   go_ret
   exact ⟨by first | rfl | (simp; done) | (simp [*]; done), by repeat (first | exact Qbv.refl _ | apply Qbv.step)⟩
 · rw [if_neg c4] at H
   have c4b0 : decide (a1 ≤ a0) = false := decide_eq_false c4
   clear c4
   obtain rfl := Option.some.inj H
   go_enter Try.func58, Try.ntmps58
   go_wp2
   go_ret
   exact ⟨by first | rfl | (simp; done) | (simp [*]; done), by repeat (first | exact Qbv.refl _ | apply Qbv.step)⟩
end Go.Proofs.Ytabcijheemjplaa.G
namespace Go.Proofs.Ytabcijheemjplaa.G
open Go.RowKit Go.Proofs.YtabcijheemjplaaW.PrintWords Go.Proofs.YtabcijheemjplaaW.PrintLast Go.Proofs.YtabcijheemjplaaW.PrintMore
attribute [local go_sem] QaQ QaR Qa3 Qa4 QaJ QaK QaS QaT
set_option linter.unusedVariables false
set_option linter.unusedSimpArgs false
mutual
def QaG.j0 : Nat → Int → Bool → List (Qae) → Int → Int → List (Qac) → Int → Int → Option (Bool)
 | 0, _, _, _, _, _, _, _, _ => none
 | k + 1, x8, x14, x102000, x103000, x103001, x103002, x104000, x104001 => if x14 = true then ((QaM.f x104001 0 (wrap64 (x103001 - 1))).bind fun t105 => (some t105)) else (if x8 = 7 then (QaG.j1 k x8 (x8 == 7) x102000 x103000 x103001 x103002 x104000 x104001) else (QaG.j1 k x8 (x8 == 8) x102000 x103000 x103001 x103002 x104000 x104001))
def QaG.j1 : Nat → Int → Bool → List (Qae) → Int → Int → List (Qac) → Int → Int → Option (Bool)
 | 0, _, _, _, _, _, _, _, _ => none
 | k + 1, x8, x23, x102000, x103000, x103001, x103002, x104000, x104001 => if x23 = true then ((QaM.f x104001 0 (wrap64 ((x103002.length : Int) - 1))).bind fun t106 => (some t106)) else (if x8 = 9 then ((QaM.f x104001 0 (wrap64 ((x102000.length : Int) - 1))).bind fun t107 => (some t107)) else (if x8 = 13 then (QaG.j2 k (x8 == 13) x104000 x104001) else (QaG.j2 k (x8 == 14) x104000 x104001)))
def QaG.j2 : Nat → Bool → Int → Int → Option (Bool)
 | 0, _, _, _ => none
 | k + 1, x42, x104000, x104001 => if x42 = true then ((QaM.f x104001 0 3).bind fun t108 => (some t108)) else ((QaM.f x104000 1 18).bind fun t109 => (if t109 = true then (some (x104001 == 0)) else (some false)))
end
def QaG.f (k : Nat) (l0_0 : List (Qae)) (a1_0 : Int) (a1_1 : Int) (l1_2 : List (Qac)) (a2_0 : Int) (a2_1 : Int) : Option (Bool) := if a2_0 = 1 then ((QaM.f a2_1 0 99).bind fun t104 => (some t104)) else (if a2_0 = 2 then (QaG.j0 k a2_0 (a2_0 == 2) l0_0 a1_0 a1_1 l1_2 a2_0 a2_1) else (QaG.j0 k a2_0 (a2_0 == 3) l0_0 a1_0 a1_1 l1_2 a2_0 a2_1))
theorem QaG.mono_l : ∀ k, (∀ y0 y1 y2 y3 y4 y5 y6 y7, LeO (QaG.j0 k y0 y1 y2 y3 y4 y5 y6 y7) (QaG.j0 (k + 1) y0 y1 y2 y3 y4 y5 y6 y7)) ∧ (∀ y0 y1 y2 y3 y4 y5 y6 y7, LeO (QaG.j1 k y0 y1 y2 y3 y4 y5 y6 y7) (QaG.j1 (k + 1) y0 y1 y2 y3 y4 y5 y6 y7)) ∧ (∀ y0 y1 y2, LeO (QaG.j2 k y0 y1 y2) (QaG.j2 (k + 1) y0 y1 y2))
 | 0 => ⟨fun _ _ _ _ _ _ _ _ r h => by simp [QaG.j0] at h, fun _ _ _ _ _ _ _ _ r h => by simp [QaG.j1] at h, fun _ _ _ r h => by simp [QaG.j2] at h⟩
 | k + 1 => by
   obtain ⟨ih0, ih1, ih2⟩ := QaG.mono_l k
   refine ⟨?_, ?_, ?_⟩
   · intro y0 y1 y2 y3 y4 y5 y6 y7
     unfold QaG.j0
     repeat' first
     | (with_reducible exact ih0 _ _ _ _ _ _ _ _)
     | (with_reducible exact ih1 _ _ _ _ _ _ _ _)
     | (with_reducible exact ih2 _ _ _)
     | (with_reducible exact LeO.refl _)
     | (with_reducible exact LeO.none _)
     | (with_reducible refine LeO.ite ?_ ?_)
     | (with_reducible refine LeO.bind ?_ (fun _ => ?_))
     | exact ih0 _ _ _ _ _ _ _ _
     | exact ih1 _ _ _ _ _ _ _ _
     | exact ih2 _ _ _
     | exact LeO.none _
     | refine LeO.ite ?_ ?_
     | refine LeO.bind ?_ (fun _ => ?_)
   · intro y0 y1 y2 y3 y4 y5 y6 y7
     unfold QaG.j1
     repeat' first
     | (with_reducible exact ih0 _ _ _ _ _ _ _ _)
     | (with_reducible exact ih1 _ _ _ _ _ _ _ _)
     | (with_reducible exact ih2 _ _ _)
     | (with_reducible exact LeO.refl _)
     | (with_reducible exact LeO.none _)
     | (with_reducible refine LeO.ite ?_ ?_)
     | (with_reducible refine LeO.bind ?_ (fun _ => ?_))
     | exact ih0 _ _ _ _ _ _ _ _
     | exact ih1 _ _ _ _ _ _ _ _
     | exact ih2 _ _ _
     | exact LeO.none _
     | refine LeO.ite ?_ ?_
     | refine LeO.bind ?_ (fun _ => ?_)
   · intro y0 y1 y2
     unfold QaG.j2
     repeat' first
     | (with_reducible exact ih0 _ _ _ _ _ _ _ _)
     | (with_reducible exact ih1 _ _ _ _ _ _ _ _)
     | (with_reducible exact ih2 _ _ _)
     | (with_reducible exact LeO.refl _)
     | (with_reducible exact LeO.none _)
     | (with_reducible refine LeO.ite ?_ ?_)
     | (with_reducible refine LeO.bind ?_ (fun _ => ?_))
     | exact ih0 _ _ _ _ _ _ _ _
     | exact ih1 _ _ _ _ _ _ _ _
     | exact ih2 _ _ _
     | exact LeO.none _
     | refine LeO.ite ?_ ?_
     | refine LeO.bind ?_ (fun _ => ?_)
theorem QaG.mono : ∀ a0 a1 a2 a3 a4 a5 k, LeO (QaG.f k a0 a1 a2 a3 a4 a5) (QaG.f (k + 1) a0 a1 a2 a3 a4 a5) := by
 intro a0 a1 a2 a3 a4 a5 k
 obtain ⟨ih0, ih1, ih2⟩ := QaG.mono_l k
 unfold QaG.f
 repeat' first
  | (with_reducible exact ih0 _ _ _ _ _ _ _ _)
  | (with_reducible exact ih1 _ _ _ _ _ _ _ _)
  | (with_reducible exact ih2 _ _ _)
  | (with_reducible exact LeO.refl _)
  | (with_reducible exact LeO.none _)
  | (with_reducible refine LeO.ite ?_ ?_)
  | (with_reducible refine LeO.bind ?_ (fun _ => ?_))
  | exact ih0 _ _ _ _ _ _ _ _
  | exact ih1 _ _ _ _ _ _ _ _
  | exact ih2 _ _ _
  | exact LeO.none _
  | refine LeO.ite ?_ ?_
  | refine LeO.bind ?_ (fun _ => ?_)
set_option maxHeartbeats 8000000 in
set_option maxRecDepth 100000 in
theorem QaG.calls (k : Nat) (A0_0 : Option Addr) (c0_0 : Nat) (l0_0 : List (Qae)) (a1_0 : Int) (a1_1 : Int) (A1_2 : Option Addr) (c1_2 : Nat) (l1_2 : List (Qac)) (a2_0 : Int) (a2_1 : Int) (r : Bool) (w : World) (hr0_0 : Kd.C QaD w A0_0 l0_0.length l0_0) (hc0_0 : l0_0.length ≤ c0_0) (hr1_2 : Kd.C QaB w A1_2 l1_2.length l1_2) (hc1_2 : l1_2.length ≤ c1_2) (h : QaG.f k l0_0 a1_0 a1_1 l1_2 a2_0 a2_1 = some r) :
 Calls Try.prog 129 #[.agg #[.slice A0_0 l0_0.length c0_0], .agg #[.int .i64 a1_0, .int .i64 a1_1, .slice A1_2 l1_2.length c1_2], .agg #[.int .i64 a2_0, .int .i64 a2_1]] w fun e w' => e = .returned (.bool r) ∧ Below w.heap.size w w' := by
 have hu25 := Try.underlying25
 have hu34 := Try.underlying34
 have hu83 := Try.underlying83
 have HR0_0 := Aside0.mk hr0_0
 have HC0_0 := Aside0.mk hc0_0
 clear hr0_0 hc0_0
 have HR1_2 := Aside0.mk hr1_2
 have HC1_2 := Aside0.mk hc1_2
 clear hr1_2 hc1_2
 have HB := Aside0.mk (Below.refl w.heap.size w)
 have H : (if a2_0 = 1 then ((QaM.f a2_1 0 99).bind fun t104 => (some t104)) else (if a2_0 = 2 then (QaG.j0 k a2_0 (a2_0 == 2) l0_0 a1_0 a1_1 l1_2 a2_0 a2_1) else (QaG.j0 k a2_0 (a2_0 == 3) l0_0 a1_0 a1_1 l1_2 a2_0 a2_1))) = some r := h
 clear h
 by_cases c4 : a2_0 = 1
 · rw [if_pos c4] at H
   have c4b0 : (a2_0 == 1) = true := beq_iff_eq.mpr c4
   have c4b1 : (a2_0 != 1) = false := bne_eq_false_iff_eq.mpr c4
   clear c4
   replace H := Option.bind_eq_some_iff.mp H
   obtain ⟨t104, A50, H⟩ := H
   replace H : (some t104) = some r := H
   have A5 := Aside0.mk A50
   clear A50
   obtain rfl := Option.some.inj H
   go_enter Try.func129, Try.ntmps129
   go_wp2_with (first | ((with_reducible refine QaH (N := 3) rfl ?_); refine QaN ?hg (N := 3) ?hd (cs := #[.slice A0_0 l0_0.length c0_0]) (t := 25) ?hr ?_; (case hd => rfl); (case hg => rfl); (case hr => first | (go_simp; done) | (go_simp; rfl)); intro gb101 hg w6 hbox hb; have n0_ := Aside0.mk (Qap (bw_) hb); have n1_ := Aside0.mk (hbox); have n2_ := Aside0.mk ((gs_ hg bw_ : w.heap.size ≤ gb101)); have n3_ := Aside0.mk ((gs_ hg bw_ : w.heap.size ≤ gb101)); clear HB; have HB := n0_; have BK101 := n1_; have GW101 := n2_; have GE101 := n3_; clear n0_ n1_ n2_ n3_; clear hb hbox hg) | ((with_reducible refine QaH (N := 4) rfl ?_); refine QaN ?hg (N := 4) ?hd (cs := #[.int .i64 a1_0, .int .i64 a1_1, .slice A1_2 l1_2.length c1_2]) (t := 34) ?hr ?_; (case hd => rfl); (case hg => rfl); (case hr => first | (go_simp; done) | (go_simp; rfl)); intro gb102 hg w7 hbox hb; have n0_ := Aside0.mk (bb_ BK101 hb); have n1_ := Aside0.mk (Qap (bw_) hb); have n2_ := Aside0.mk (hbox); have n3_ := Aside0.mk ((gs_ hg bw_ : w.heap.size ≤ gb102)); have n4_ := Aside0.mk ((gs_ hg bw_ : w.heap.size ≤ gb102)); have n5_ := Aside0.mk ((nl_ hg BK101 : gb101 ≠ gb102)); have n6_ := Aside0.mk ((ng_ hg BK101 : gb102 ≠ gb101)); clear BK101; clear HB; have BK101 := n0_; have HB := n1_; have BK102 := n2_; have GW102 := n3_; have GE102 := n4_; have NB101_102 := n5_; have NB102_101 := n6_; clear n0_ n1_ n2_ n3_ n4_ n5_ n6_; clear hb hbox hg) | ((with_reducible refine QaH (N := 5) rfl ?_); refine QaN ?hg (N := 5) ?hd (cs := #[.int .i64 a2_0, .int .i64 a2_1]) (t := 83) ?hr ?_; (case hd => rfl); (case hg => rfl); (case hr => first | (go_simp; done) | (go_simp; rfl)); intro gb103 hg w8 hbox hb; have n0_ := Aside0.mk (bb_ BK101 hb); have n1_ := Aside0.mk (bb_ BK102 hb); have n2_ := Aside0.mk (Qap (bw_) hb); have n3_ := Aside0.mk (hbox); have n4_ := Aside0.mk ((gs_ hg bw_ : w.heap.size ≤ gb103)); have n5_ := Aside0.mk ((gs_ hg bw_ : w.heap.size ≤ gb103)); have n6_ := Aside0.mk ((nl_ hg BK101 : gb101 ≠ gb103)); have n7_ := Aside0.mk ((ng_ hg BK101 : gb103 ≠ gb101)); have n8_ := Aside0.mk ((nl_ hg BK102 : gb102 ≠ gb103)); have n9_ := Aside0.mk ((ng_ hg BK102 : gb103 ≠ gb102)); clear BK101; clear BK102; clear HB; have BK101 := n0_; have BK102 := n1_; have HB := n2_; have BK103 := n3_; have GW103 := n4_; have GE103 := n5_; have NB101_103 := n6_; have NB103_101 := n7_; have NB102_103 := n8_; have NB103_102 := n9_; clear n0_ n1_ n2_ n3_ n4_ n5_ n6_ n7_ n8_ n9_; clear hb hbox hg; have hnb9 := NB103_101.out; have hnc9 := NB101_103.out; have hnb10 := NB103_102.out; have hnc10 := NB102_103.out; obtain ⟨hcz11_0, hcz11_1, hfz11_0, hfz11_1⟩ := Qb2 BK103.out) | ((with_reducible refine Qax (f := 58) rfl ?_); refine QaX (some 13) rfl rfl Try.func58 (by kernel_rfl) rfl #[.int .i64 a2_1, .int .i64 0, .int .i64 99] rfl (by (try simp only [List.map_toArray, List.map_cons, List.map_nil]); first | done | rfl | (simp only [List.length_drop, List.length_take]; rfl)) ?_; (with_reducible refine (QaM.calls a2_1 0 99 t104 _ A5.out).mono ?_); rintro e w' ⟨rfl, ⟨nd, rfl⟩⟩; refine ⟨_, rfl, ?_⟩))
   go_ret
   exact ⟨by first | rfl | (simp [Qan, Qao] <;> rfl) | (simp [*, Qan, Qao] <;> rfl), bw_⟩
 · rw [if_neg c4] at H
   have c4b0 : (a2_0 == 1) = false := beq_eq_false_iff_ne.mpr c4
   have c4b1 : (a2_0 != 1) = true := bne_iff_ne.mpr c4
   have HC12 := Aside0.mk H
   clear H
   go_enter Try.func129, Try.ntmps129
   go_upto_if 14 with (first | ((with_reducible refine QaH (N := 3) rfl ?_); refine QaN ?hg (N := 3) ?hd (cs := #[.slice A0_0 l0_0.length c0_0]) (t := 25) ?hr ?_; (case hd => rfl); (case hg => rfl); (case hr => first | (go_simp; done) | (go_simp; rfl)); intro gb101 hg w13 hbox hb; have n0_ := Aside0.mk (Qap (bw_) hb); have n1_ := Aside0.mk (hbox); have n2_ := Aside0.mk ((gs_ hg bw_ : w.heap.size ≤ gb101)); have n3_ := Aside0.mk ((gs_ hg bw_ : w.heap.size ≤ gb101)); clear HB; have HB := n0_; have BK101 := n1_; have GW101 := n2_; have GE101 := n3_; clear n0_ n1_ n2_ n3_; clear hb hbox hg) | ((with_reducible refine QaH (N := 4) rfl ?_); refine QaN ?hg (N := 4) ?hd (cs := #[.int .i64 a1_0, .int .i64 a1_1, .slice A1_2 l1_2.length c1_2]) (t := 34) ?hr ?_; (case hd => rfl); (case hg => rfl); (case hr => first | (go_simp; done) | (go_simp; rfl)); intro gb102 hg w14 hbox hb; have n0_ := Aside0.mk (bb_ BK101 hb); have n1_ := Aside0.mk (Qap (bw_) hb); have n2_ := Aside0.mk (hbox); have n3_ := Aside0.mk ((gs_ hg bw_ : w.heap.size ≤ gb102)); have n4_ := Aside0.mk ((gs_ hg bw_ : w.heap.size ≤ gb102)); have n5_ := Aside0.mk ((nl_ hg BK101 : gb101 ≠ gb102)); have n6_ := Aside0.mk ((ng_ hg BK101 : gb102 ≠ gb101)); clear BK101; clear HB; have BK101 := n0_; have HB := n1_; have BK102 := n2_; have GW102 := n3_; have GE102 := n4_; have NB101_102 := n5_; have NB102_101 := n6_; clear n0_ n1_ n2_ n3_ n4_ n5_ n6_; clear hb hbox hg) | ((with_reducible refine QaH (N := 5) rfl ?_); refine QaN ?hg (N := 5) ?hd (cs := #[.int .i64 a2_0, .int .i64 a2_1]) (t := 83) ?hr ?_; (case hd => rfl); (case hg => rfl); (case hr => first | (go_simp; done) | (go_simp; rfl)); intro gb103 hg w15 hbox hb; have n0_ := Aside0.mk (bb_ BK101 hb); have n1_ := Aside0.mk (bb_ BK102 hb); have n2_ := Aside0.mk (Qap (bw_) hb); have n3_ := Aside0.mk (hbox); have n4_ := Aside0.mk ((gs_ hg bw_ : w.heap.size ≤ gb103)); have n5_ := Aside0.mk ((gs_ hg bw_ : w.heap.size ≤ gb103)); have n6_ := Aside0.mk ((nl_ hg BK101 : gb101 ≠ gb103)); have n7_ := Aside0.mk ((ng_ hg BK101 : gb103 ≠ gb101)); have n8_ := Aside0.mk ((nl_ hg BK102 : gb102 ≠ gb103)); have n9_ := Aside0.mk ((ng_ hg BK102 : gb103 ≠ gb102)); clear BK101; clear BK102; clear HB; have BK101 := n0_; have BK102 := n1_; have HB := n2_; have BK103 := n3_; have GW103 := n4_; have GE103 := n5_; have NB101_103 := n6_; have NB103_101 := n7_; have NB102_103 := n8_; have NB103_102 := n9_; clear n0_ n1_ n2_ n3_ n4_ n5_ n6_ n7_ n8_ n9_; clear hb hbox hg; have hnb16 := NB103_101.out; have hnc16 := NB101_103.out; have hnb17 := NB103_102.out; have hnc17 := NB102_103.out; obtain ⟨hcz18_0, hcz18_1, hfz18_0, hfz18_1⟩ := Qb2 BK103.out))
   (try simp only [Act.put, List.setIfInBounds_toArray, List.set_cons_zero, List.set_cons_succ])
   go_cut [14] (fun v14 wc => ∃ (kq : Nat) (x14_11 : Bool), v14 = .bool x14_11 ∧ Aside0 (QaG.j0 kq a2_0 x14_11 l0_0 a1_0 a1_1 l1_2 a2_0 a2_1 = some r) ∧ Aside0 (kq ≤ k) ∧ Aside0 (wc.heap[gb101]? = some (.cells #[(.slice A0_0 l0_0.length c0_0)] 25 (0, 0))) ∧ Aside0 (wc.heap[gb102]? = some (.cells #[.int .i64 a1_0, .int .i64 a1_1, (.slice A1_2 l1_2.length c1_2)] 34 (0, 0))) ∧ Aside0 (wc.heap[gb103]? = some (.cells #[.int .i64 a2_0, .int .i64 a2_1] 83 (0, 0))) ∧ Aside0 (Below w.heap.size w wc))
   case first =>
    have H := HC12.out
    clear HC12
    by_cases c19 : a2_0 = 2
    · rw [if_pos c19] at H
      have c19b0 : (a2_0 == 2) = true := beq_iff_eq.mpr c19
      have c19b1 : (a2_0 != 2) = false := bne_eq_false_iff_eq.mpr c19
      clear c19
      (first | rw [c19b0] | (simp only [Qbb, Qbd]; rw [c19b0]) | skip)
      have H' := Aside0.mk H
      clear H
      go_wp2
      go_meet
      case rel => exact ⟨_, ((a2_0 == 2)), (by first | rfl | (simp; done) | (simp [*]; done)), H', ⟨by first | omega | exact Nat.le_refl _⟩, ⟨by (refine kb_ ?_); exact BK101.out⟩, ⟨by (refine kb_ ?_); exact BK102.out⟩, ⟨by (refine kb_ ?_); exact BK103.out⟩, ⟨bw_⟩⟩
    · rw [if_neg c19] at H
      have c19b0 : (a2_0 == 2) = false := beq_eq_false_iff_ne.mpr c19
      have c19b1 : (a2_0 != 2) = true := bne_iff_ne.mpr c19
      (first | rw [c19b0] | (simp only [Qbb, Qbd]; rw [c19b0]) | skip)
      have H' := Aside0.mk H
      clear H
      go_wp2
      go_meet
      case rel => exact ⟨_, ((a2_0 == 3)), (by first | rfl | (simp; done) | (simp [*]; done)), H', ⟨by first | omega | exact Nat.le_refl _⟩, ⟨by (refine kb_ ?_); exact BK101.out⟩, ⟨by (refine kb_ ?_); exact BK102.out⟩, ⟨by (refine kb_ ?_); exact BK103.out⟩, ⟨bw_⟩⟩
   case rest =>
    clear HC12
    try clear c1
    try clear p2
    try clear c4
    try clear c4b0
    try clear c4b1
    try clear c5
    try clear c9
    try clear c10
    try clear c12
    try clear c16
    try clear c17
    try clear c19
    try clear c19b0
    try clear c19b1
    try clear hcz11_0
    try clear hcz11_1
    try clear hcz18_0
    try clear hcz18_1
    try clear hfz11_0
    try clear hfz11_1
    try clear hfz18_0
    try clear hfz18_1
    obtain ⟨kq, x14_11, rfl, HA, HJ11, BK101, BK102, BK103, HB⟩ := hcut
    cases kq with
    | zero => exact absurd HA.out (by simp [QaG.j0])
    | succ kj11 =>
      have H := HA.out
      clear HA
      simp only [QaG.j0] at H
      by_cases c20 : x14_11 = true
      · subst c20
        have H1 : ((QaM.f a2_1 0 (wrap64 (a1_1 - 1))).bind fun t105 => (some t105)) = some r := by rw [if_pos rfl] at H; exact H
        clear H
        have H := H1
        clear H1
        replace H := Option.bind_eq_some_iff.mp H
        obtain ⟨t105, A210, H⟩ := H
        replace H : (some t105) = some r := H
        have A21 := Aside0.mk A210
        clear A210
        obtain rfl := Option.some.inj H
        have hnb22 := NB103_101.out
        have hnc22 := NB101_103.out
        have hnb23 := NB103_102.out
        have hnc23 := NB102_103.out
        have hcz24_0 : wc.cell? ⟨gb103, 0, none⟩ = some (.int .i64 a2_0) := (Qaf BK103.out 0).trans rfl
        have hcz24_1 : wc.cell? ⟨gb103, 1, none⟩ = some (.int .i64 a2_1) := (Qaf BK103.out 1).trans rfl
        have hfz24_0 := Qaj BK103.out 0
        have hfz24_1 := Qaj BK103.out 1
        have hnb25 := NB102_101.out
        have hnc25 := NB101_102.out
        have hcz26_0 : wc.cell? ⟨gb102, 0, none⟩ = some (.int .i64 a1_0) := (Qaf BK102.out 0).trans rfl
        have hcz26_1 : wc.cell? ⟨gb102, 1, none⟩ = some (.int .i64 a1_1) := (Qaf BK102.out 1).trans rfl
        have hcz26_2 : wc.cell? ⟨gb102, 2, none⟩ = some (.slice A1_2 l1_2.length c1_2) := (Qaf BK102.out 2).trans rfl
        have hfz26_0 := Qaj BK102.out 0
        have hfz26_1 := Qaj BK102.out 1
        have hfz26_2 := Qaj BK102.out 2
        go_wp2_with (first | ((with_reducible refine Qax (f := 58) rfl ?_); refine QaX (some 22) rfl rfl Try.func58 (by kernel_rfl) rfl #[.int .i64 a2_1, .int .i64 0, .int .i64 (wrap64 (a1_1 - 1))] rfl (by (try simp only [List.map_toArray, List.map_cons, List.map_nil]); first | done | rfl | (simp only [List.length_drop, List.length_take]; rfl)) ?_; (with_reducible refine (QaM.calls a2_1 0 (wrap64 (a1_1 - 1)) t105 _ A21.out).mono ?_); rintro e w' ⟨rfl, ⟨nd, rfl⟩⟩; refine ⟨_, rfl, ?_⟩))
        go_ret
        exact ⟨by first | rfl | (simp [Qan, Qao] <;> rfl) | (simp [*, Qan, Qao] <;> rfl), bw_⟩
      · replace c20 := Bool.eq_false_iff.mpr c20
        subst c20
        have H1 : (if a2_0 = 7 then (QaG.j1 kj11 a2_0 (a2_0 == 7) l0_0 a1_0 a1_1 l1_2 a2_0 a2_1) else (QaG.j1 kj11 a2_0 (a2_0 == 8) l0_0 a1_0 a1_1 l1_2 a2_0 a2_1)) = some r := by rw [if_neg (show ¬ (false = true) by decide)] at H; exact H
        clear H
        have H := H1
        clear H1
        have HC27 := Aside0.mk H
        clear H
        go_upto_if 23 with (fail)
        go_cut [23] (fun v23 wc => ∃ (kq : Nat) (x23_26 : Bool), v23 = .bool x23_26 ∧ Aside0 (QaG.j1 kq a2_0 x23_26 l0_0 a1_0 a1_1 l1_2 a2_0 a2_1 = some r) ∧ Aside0 (kq ≤ kj11) ∧ Aside0 (wc.heap[gb101]? = some (.cells #[(.slice A0_0 l0_0.length c0_0)] 25 (0, 0))) ∧ Aside0 (wc.heap[gb102]? = some (.cells #[.int .i64 a1_0, .int .i64 a1_1, (.slice A1_2 l1_2.length c1_2)] 34 (0, 0))) ∧ Aside0 (wc.heap[gb103]? = some (.cells #[.int .i64 a2_0, .int .i64 a2_1] 83 (0, 0))) ∧ Aside0 (Below w.heap.size w wc))
        case first =>
         have H := HC27.out
         clear HC27
         by_cases c28 : a2_0 = 7
         · rw [if_pos c28] at H
           have c28b0 : (a2_0 == 7) = true := beq_iff_eq.mpr c28
           have c28b1 : (a2_0 != 7) = false := bne_eq_false_iff_eq.mpr c28
           clear c28
           (first | rw [c28b0] | (simp only [Qbb, Qbd]; rw [c28b0]) | skip)
           have H' := Aside0.mk H
           clear H
           go_wp2
           go_meet
           case rel => exact ⟨_, ((a2_0 == 7)), (by first | rfl | (simp; done) | (simp [*]; done)), H', ⟨by have := HJ11.out; first | omega | exact Nat.le_refl _⟩, ⟨by (refine kb_ ?_); exact BK101.out⟩, ⟨by (refine kb_ ?_); exact BK102.out⟩, ⟨by (refine kb_ ?_); exact BK103.out⟩, ⟨bw_⟩⟩
         · rw [if_neg c28] at H
           have c28b0 : (a2_0 == 7) = false := beq_eq_false_iff_ne.mpr c28
           have c28b1 : (a2_0 != 7) = true := bne_iff_ne.mpr c28
           (first | rw [c28b0] | (simp only [Qbb, Qbd]; rw [c28b0]) | skip)
           have H' := Aside0.mk H
           clear H
           go_wp2
           go_meet
           case rel => exact ⟨_, ((a2_0 == 8)), (by first | rfl | (simp; done) | (simp [*]; done)), H', ⟨by have := HJ11.out; first | omega | exact Nat.le_refl _⟩, ⟨by (refine kb_ ?_); exact BK101.out⟩, ⟨by (refine kb_ ?_); exact BK102.out⟩, ⟨by (refine kb_ ?_); exact BK103.out⟩, ⟨bw_⟩⟩
        case rest =>
         clear HC27
         try clear c1
         try clear c2
         try clear p2
         try clear c4
         try clear c4b0
         try clear c4b1
         try clear c5
         try clear p6
         try clear c9
         try clear c10
         try clear c12
         try clear c16
         try clear c17
         try clear c19
         try clear c19b0
         try clear c19b1
         try clear c20
         try clear c22
         try clear c23
         try clear c25
         try clear c28
         try clear c28b0
         try clear c28b1
         try clear hcz11_0
         try clear hcz11_1
         try clear hcz18_0
         try clear hcz18_1
         try clear hcz24_0
         try clear hcz24_1
         try clear hcz26_0
         try clear hcz26_1
         try clear hcz26_2
         try clear hfz11_0
         try clear hfz11_1
         try clear hfz18_0
         try clear hfz18_1
         try clear hfz24_0
         try clear hfz24_1
         try clear hfz26_0
         try clear hfz26_1
         try clear hfz26_2
         try clear p2
         obtain ⟨kq, x23_26, rfl, HA, HJ26, BK101, BK102, BK103, HB⟩ := hcut
         cases kq with
         | zero => exact absurd HA.out (by simp [QaG.j1])
         | succ kj26 =>
           have H := HA.out
           clear HA
           simp only [QaG.j1] at H
           by_cases c29 : x23_26 = true
           · subst c29
             have H1 : ((QaM.f a2_1 0 (wrap64 ((l1_2.length : Int) - 1))).bind fun t106 => (some t106)) = some r := by rw [if_pos rfl] at H; exact H
             clear H
             have H := H1
             clear H1
             replace H := Option.bind_eq_some_iff.mp H
             obtain ⟨t106, A300, H⟩ := H
             replace H : (some t106) = some r := H
             have A30 := Aside0.mk A300
             clear A300
             obtain rfl := Option.some.inj H
             have hnb31 := NB103_101.out
             have hnc31 := NB101_103.out
             have hnb32 := NB103_102.out
             have hnc32 := NB102_103.out
             have hcz33_0 : wc.cell? ⟨gb103, 0, none⟩ = some (.int .i64 a2_0) := (Qaf BK103.out 0).trans rfl
             have hcz33_1 : wc.cell? ⟨gb103, 1, none⟩ = some (.int .i64 a2_1) := (Qaf BK103.out 1).trans rfl
             have hfz33_0 := Qaj BK103.out 0
             have hfz33_1 := Qaj BK103.out 1
             have hnb34 := NB102_101.out
             have hnc34 := NB101_102.out
             have hcz35_0 : wc.cell? ⟨gb102, 0, none⟩ = some (.int .i64 a1_0) := (Qaf BK102.out 0).trans rfl
             have hcz35_1 : wc.cell? ⟨gb102, 1, none⟩ = some (.int .i64 a1_1) := (Qaf BK102.out 1).trans rfl
             have hcz35_2 : wc.cell? ⟨gb102, 2, none⟩ = some (.slice A1_2 l1_2.length c1_2) := (Qaf BK102.out 2).trans rfl
             have hfz35_0 := Qaj BK102.out 0
             have hfz35_1 := Qaj BK102.out 1
             have hfz35_2 := Qaj BK102.out 2
             go_wp2_with (first | ((with_reducible refine Qax (f := 58) rfl ?_); refine QaX (some 32) rfl rfl Try.func58 (by kernel_rfl) rfl #[.int .i64 a2_1, .int .i64 0, .int .i64 (wrap64 ((l1_2.length : Int) - 1))] rfl (by (try simp only [List.map_toArray, List.map_cons, List.map_nil]); first | done | rfl | (simp only [List.length_drop, List.length_take]; rfl)) ?_; (with_reducible refine (QaM.calls a2_1 0 (wrap64 ((l1_2.length : Int) - 1)) t106 _ A30.out).mono ?_); rintro e w' ⟨rfl, ⟨nd, rfl⟩⟩; refine ⟨_, rfl, ?_⟩))
             go_ret
             exact ⟨by first | rfl | (simp [Qan, Qao] <;> rfl) | (simp [*, Qan, Qao] <;> rfl), bw_⟩
           · replace c29 := Bool.eq_false_iff.mpr c29
             subst c29
             have H1 : (if a2_0 = 9 then ((QaM.f a2_1 0 (wrap64 ((l0_0.length : Int) - 1))).bind fun t107 => (some t107)) else (if a2_0 = 13 then (QaG.j2 kj26 (a2_0 == 13) a2_0 a2_1) else (QaG.j2 kj26 (a2_0 == 14) a2_0 a2_1))) = some r := by rw [if_neg (show ¬ (false = true) by decide)] at H; exact H
             clear H
             have H := H1
             clear H1
             by_cases c36 : a2_0 = 9
             · rw [if_pos c36] at H
               have c36b0 : (a2_0 == 9) = true := beq_iff_eq.mpr c36
               have c36b1 : (a2_0 != 9) = false := bne_eq_false_iff_eq.mpr c36
               clear c36
               replace H := Option.bind_eq_some_iff.mp H
               obtain ⟨t107, A370, H⟩ := H
               replace H : (some t107) = some r := H
               have A37 := Aside0.mk A370
               clear A370
               obtain rfl := Option.some.inj H
               have hnb38 := NB103_101.out
               have hnc38 := NB101_103.out
               have hnb39 := NB103_102.out
               have hnc39 := NB102_103.out
               have hcz40_0 : wc.cell? ⟨gb103, 0, none⟩ = some (.int .i64 a2_0) := (Qaf BK103.out 0).trans rfl
               have hcz40_1 : wc.cell? ⟨gb103, 1, none⟩ = some (.int .i64 a2_1) := (Qaf BK103.out 1).trans rfl
               have hfz40_0 := Qaj BK103.out 0
               have hfz40_1 := Qaj BK103.out 1
               have hnb41 := NB101_102.out
               have hnc41 := NB102_101.out
               have hcz42_0 : wc.cell? ⟨gb101, 0, none⟩ = some (.slice A0_0 l0_0.length c0_0) := (Qaf BK101.out 0).trans rfl
               have hfz42_0 := Qaj BK101.out 0
               go_wp2_with (first | ((with_reducible refine Qax (f := 58) rfl ?_); refine QaX (some 41) rfl rfl Try.func58 (by kernel_rfl) rfl #[.int .i64 a2_1, .int .i64 0, .int .i64 (wrap64 ((l0_0.length : Int) - 1))] rfl (by (try simp only [List.map_toArray, List.map_cons, List.map_nil]); first | done | rfl | (simp only [List.length_drop, List.length_take]; rfl)) ?_; (with_reducible refine (QaM.calls a2_1 0 (wrap64 ((l0_0.length : Int) - 1)) t107 _ A37.out).mono ?_); rintro e w' ⟨rfl, ⟨nd, rfl⟩⟩; refine ⟨_, rfl, ?_⟩))
               go_ret
               exact ⟨by first | rfl | (simp [Qan, Qao] <;> rfl) | (simp [*, Qan, Qao] <;> rfl), bw_⟩
             · rw [if_neg c36] at H
               have c36b0 : (a2_0 == 9) = false := beq_eq_false_iff_ne.mpr c36
               have c36b1 : (a2_0 != 9) = true := bne_iff_ne.mpr c36
               have HC43 := Aside0.mk H
               clear H
               go_upto_if 42 with (fail)
               go_cut [42] (fun v42 wc => ∃ (kq : Nat) (x42_42 : Bool), v42 = .bool x42_42 ∧ Aside0 (QaG.j2 kq x42_42 a2_0 a2_1 = some r) ∧ Aside0 (kq ≤ kj26) ∧ Aside0 (wc.heap[gb101]? = some (.cells #[(.slice A0_0 l0_0.length c0_0)] 25 (0, 0))) ∧ Aside0 (wc.heap[gb102]? = some (.cells #[.int .i64 a1_0, .int .i64 a1_1, (.slice A1_2 l1_2.length c1_2)] 34 (0, 0))) ∧ Aside0 (wc.heap[gb103]? = some (.cells #[.int .i64 a2_0, .int .i64 a2_1] 83 (0, 0))) ∧ Aside0 (Below w.heap.size w wc))
               case first =>
                have H := HC43.out
                clear HC43
                by_cases c44 : a2_0 = 13
                · rw [if_pos c44] at H
                  have c44b0 : (a2_0 == 13) = true := beq_iff_eq.mpr c44
                  have c44b1 : (a2_0 != 13) = false := bne_eq_false_iff_eq.mpr c44
                  clear c44
                  (first | rw [c44b0] | (simp only [Qbb, Qbd]; rw [c44b0]) | skip)
                  have H' := Aside0.mk H
                  clear H
                  go_wp2
                  go_meet
                  case rel => exact ⟨_, ((a2_0 == 13)), (by first | rfl | (simp; done) | (simp [*]; done)), H', ⟨by have := HJ11.out; have := HJ26.out; first | omega | exact Nat.le_refl _⟩, ⟨by (refine kb_ ?_); exact BK101.out⟩, ⟨by (refine kb_ ?_); exact BK102.out⟩, ⟨by (refine kb_ ?_); exact BK103.out⟩, ⟨bw_⟩⟩
                · rw [if_neg c44] at H
                  have c44b0 : (a2_0 == 13) = false := beq_eq_false_iff_ne.mpr c44
                  have c44b1 : (a2_0 != 13) = true := bne_iff_ne.mpr c44
                  (first | rw [c44b0] | (simp only [Qbb, Qbd]; rw [c44b0]) | skip)
                  have H' := Aside0.mk H
                  clear H
                  go_wp2
                  go_meet
                  case rel => exact ⟨_, ((a2_0 == 14)), (by first | rfl | (simp; done) | (simp [*]; done)), H', ⟨by have := HJ11.out; have := HJ26.out; first | omega | exact Nat.le_refl _⟩, ⟨by (refine kb_ ?_); exact BK101.out⟩, ⟨by (refine kb_ ?_); exact BK102.out⟩, ⟨by (refine kb_ ?_); exact BK103.out⟩, ⟨bw_⟩⟩
               case rest =>
                clear HC43
                try clear c1
                try clear c2
                try clear p2
                try clear c3
                try clear c4
                try clear c4b0
                try clear c4b1
                try clear c5
                try clear p6
                try clear c9
                try clear c10
                try clear c12
                try clear c16
                try clear c17
                try clear c19
                try clear c19b0
                try clear c19b1
                try clear c20
                try clear c22
                try clear c23
                try clear c25
                try clear c28
                try clear c28b0
                try clear c28b1
                try clear c29
                try clear c31
                try clear c32
                try clear c34
                try clear c36
                try clear c36b0
                try clear c36b1
                try clear c38
                try clear c39
                try clear c41
                try clear c44
                try clear c44b0
                try clear c44b1
                try clear hcz11_0
                try clear hcz11_1
                try clear hcz18_0
                try clear hcz18_1
                try clear hcz24_0
                try clear hcz24_1
                try clear hcz26_0
                try clear hcz26_1
                try clear hcz26_2
                try clear hcz33_0
                try clear hcz33_1
                try clear hcz35_0
                try clear hcz35_1
                try clear hcz35_2
                try clear hcz40_0
                try clear hcz40_1
                try clear hcz42_0
                try clear hfz11_0
                try clear hfz11_1
                try clear hfz18_0
                try clear hfz18_1
                try clear hfz24_0
                try clear hfz24_1
                try clear hfz26_0
                try clear hfz26_1
                try clear hfz26_2
                try clear hfz33_0
                try clear hfz33_1
                try clear hfz35_0
                try clear hfz35_1
                try clear hfz35_2
                try clear hfz40_0
                try clear hfz40_1
                try clear hfz42_0
                try clear p2
                try clear p6
                obtain ⟨kq, x42_42, rfl, HA, HJ42, BK101, BK102, BK103, HB⟩ := hcut
                cases kq with
                | zero => exact absurd HA.out (by simp [QaG.j2])
                | succ kj42 =>
                  have H := HA.out
                  clear HA
                  simp only [QaG.j2] at H
                  by_cases c45 : x42_42 = true
                  · subst c45
                    have H1 : ((QaM.f a2_1 0 3).bind fun t108 => (some t108)) = some r := by rw [if_pos rfl] at H; exact H
                    clear H
                    have H := H1
                    clear H1
                    replace H := Option.bind_eq_some_iff.mp H
                    obtain ⟨t108, A460, H⟩ := H
                    replace H : (some t108) = some r := H
                    have A46 := Aside0.mk A460
                    clear A460
                    obtain rfl := Option.some.inj H
                    have hnb47 := NB103_101.out
                    have hnc47 := NB101_103.out
                    have hnb48 := NB103_102.out
                    have hnc48 := NB102_103.out
                    have hcz49_0 : wc.cell? ⟨gb103, 0, none⟩ = some (.int .i64 a2_0) := (Qaf BK103.out 0).trans rfl
                    have hcz49_1 : wc.cell? ⟨gb103, 1, none⟩ = some (.int .i64 a2_1) := (Qaf BK103.out 1).trans rfl
                    have hfz49_0 := Qaj BK103.out 0
                    have hfz49_1 := Qaj BK103.out 1
                    go_wp2_with (first | ((with_reducible refine Qax (f := 58) rfl ?_); refine QaX (some 47) rfl rfl Try.func58 (by kernel_rfl) rfl #[.int .i64 a2_1, .int .i64 0, .int .i64 3] rfl (by (try simp only [List.map_toArray, List.map_cons, List.map_nil]); first | done | rfl | (simp only [List.length_drop, List.length_take]; rfl)) ?_; (with_reducible refine (QaM.calls a2_1 0 3 t108 _ A46.out).mono ?_); rintro e w' ⟨rfl, ⟨nd, rfl⟩⟩; refine ⟨_, rfl, ?_⟩))
                    go_ret
                    exact ⟨by first | rfl | (simp [Qan, Qao] <;> rfl) | (simp [*, Qan, Qao] <;> rfl), bw_⟩
                  · replace c45 := Bool.eq_false_iff.mpr c45
                    subst c45
                    have H1 : ((QaM.f a2_0 1 18).bind fun t109 => (if t109 = true then (some (a2_1 == 0)) else (some false))) = some r := by rw [if_neg (show ¬ (false = true) by decide)] at H; exact H
                    clear H
                    have H := H1
                    clear H1
                    replace H := Option.bind_eq_some_iff.mp H
                    obtain ⟨t109, A500, H⟩ := H
                    replace H : (if t109 = true then (some (a2_1 == 0)) else (some false)) = some r := H
                    have A50 := Aside0.mk A500
                    clear A500
                    by_cases c51 : t109 = true
                    · subst c51
                      have H1 : (some (a2_1 == 0)) = some r := by rw [if_pos rfl] at H; exact H
                      clear H
                      have H := H1
                      clear H1
                      obtain rfl := Option.some.inj H
                      have hnb52 := NB103_101.out
                      have hnc52 := NB101_103.out
                      have hnb53 := NB103_102.out
                      have hnc53 := NB102_103.out
                      have hcz54_0 : wc.cell? ⟨gb103, 0, none⟩ = some (.int .i64 a2_0) := (Qaf BK103.out 0).trans rfl
                      have hcz54_1 : wc.cell? ⟨gb103, 1, none⟩ = some (.int .i64 a2_1) := (Qaf BK103.out 1).trans rfl
                      have hfz54_0 := Qaj BK103.out 0
                      have hfz54_1 := Qaj BK103.out 1
                      go_wp2_with (first | ((with_reducible refine Qax (f := 58) rfl ?_); refine QaX (some 50) rfl rfl Try.func58 (by kernel_rfl) rfl #[.int .i64 a2_0, .int .i64 1, .int .i64 18] rfl (by (try simp only [List.map_toArray, List.map_cons, List.map_nil]); first | done | rfl | (simp only [List.length_drop, List.length_take]; rfl)) ?_; (with_reducible refine (QaM.calls a2_0 1 18 true _ A50.out).mono ?_); rintro e w' ⟨rfl, ⟨nd, rfl⟩⟩; refine ⟨_, rfl, ?_⟩))
                      go_ret
                      exact ⟨by first | rfl | (simp [Qan, Qao] <;> rfl) | (simp [*, Qan, Qao] <;> rfl), bw_⟩
                    · replace c51 := Bool.eq_false_iff.mpr c51
                      subst c51
                      have H1 : (some false) = some r := by rw [if_neg (show ¬ (false = true) by decide)] at H; exact H
                      clear H
                      have H := H1
                      clear H1
                      obtain rfl := Option.some.inj H
                      have hnb55 := NB103_101.out
                      have hnc55 := NB101_103.out
                      have hnb56 := NB103_102.out
                      have hnc56 := NB102_103.out
                      have hcz57_0 : wc.cell? ⟨gb103, 0, none⟩ = some (.int .i64 a2_0) := (Qaf BK103.out 0).trans rfl
                      have hcz57_1 : wc.cell? ⟨gb103, 1, none⟩ = some (.int .i64 a2_1) := (Qaf BK103.out 1).trans rfl
                      have hfz57_0 := Qaj BK103.out 0
                      have hfz57_1 := Qaj BK103.out 1
                      go_wp2_with (first | ((with_reducible refine Qax (f := 58) rfl ?_); refine QaX (some 50) rfl rfl Try.func58 (by kernel_rfl) rfl #[.int .i64 a2_0, .int .i64 1, .int .i64 18] rfl (by (try simp only [List.map_toArray, List.map_cons, List.map_nil]); first | done | rfl | (simp only [List.length_drop, List.length_take]; rfl)) ?_; (with_reducible refine (QaM.calls a2_0 1 18 false _ A50.out).mono ?_); rintro e w' ⟨rfl, ⟨nd, rfl⟩⟩; refine ⟨_, rfl, ?_⟩))
                      go_ret
                      exact ⟨by first | rfl | (simp [Qan, Qao] <;> rfl) | (simp [*, Qan, Qao] <;> rfl), bw_⟩
end Go.Proofs.Ytabcijheemjplaa.G
namespace Go.Proofs.Ytabcijheemjplaa.G
open Go.RowKit Go.Proofs.YtabcijheemjplaaW.PrintWords Go.Proofs.YtabcijheemjplaaW.PrintLast Go.Proofs.YtabcijheemjplaaW.PrintMore
attribute [local go_sem] QaQ QaR Qa3 Qa4 QaJ QaK QaS QaT
set_option linter.unusedVariables false
set_option linter.unusedSimpArgs false
mutual
def Qas.j0 : Nat → Bool → List (Qae) → Int → Int → List (Qac) → Option (Bool)
 | 0, _, _, _, _, _ => none
 | k + 1, x23, x102000, x103000, x103001, x103002 => if x23 = true then (some false) else (Qas.l0 k 0 x102000 x103000 x103001 x103002)
def Qas.l0 : Nat → Int → List (Qae) → Int → Int → List (Qac) → Option (Bool)
 | 0, _, _, _, _, _ => none
 | k + 1, x5, x102000, x103000, x103001, x103002 => if x5 < (x103002.length : Int) then (if 0 ≤ x5 then ((QaG.f k x102000 x103000 x103001 x103002 ((Qah x103002 x5).f0) ((Qah x103002 x5).f1)).bind fun t106 => (if t106 = true then (Qas.l0 k (wrap64 (x5 + 1)) x102000 x103000 x103001 x103002) else (some false))) else (none)) else (some true)
end
def Qas.f (k : Nat) (l0_0 : List (Qae)) (a1_0 : Int) (a1_1 : Int) (l1_2 : List (Qac)) : Option (Bool) := (QaM.f a1_0 0 2).bind fun t103 => (if t103 = true then ((QaM.f a1_1 a1_0 4).bind fun t104 => (if t104 = true then (Qas.j0 k (decide ((l1_2.length : Int) > 14)) l0_0 a1_0 a1_1 l1_2) else (Qas.j0 k true l0_0 a1_0 a1_1 l1_2))) else (Qas.j0 k true l0_0 a1_0 a1_1 l1_2))
theorem Qas.mono_l : ∀ k, (∀ y0 y1 y2 y3 y4, LeO (Qas.j0 k y0 y1 y2 y3 y4) (Qas.j0 (k + 1) y0 y1 y2 y3 y4)) ∧ (∀ y0 y1 y2 y3 y4, LeO (Qas.l0 k y0 y1 y2 y3 y4) (Qas.l0 (k + 1) y0 y1 y2 y3 y4))
 | 0 => ⟨fun _ _ _ _ _ r h => by simp [Qas.j0] at h, fun _ _ _ _ _ r h => by simp [Qas.l0] at h⟩
 | k + 1 => by
   obtain ⟨ih0, ih1⟩ := Qas.mono_l k
   refine ⟨?_, ?_⟩
   · intro y0 y1 y2 y3 y4
     unfold Qas.j0
     repeat' first
     | (with_reducible exact ih0 _ _ _ _ _)
     | (with_reducible exact ih1 _ _ _ _ _)
     | (with_reducible exact QaG.mono _ _ _ _ _ _ _)
     | (with_reducible exact LeO.refl _)
     | (with_reducible exact LeO.none _)
     | (with_reducible refine LeO.ite ?_ ?_)
     | (with_reducible refine LeO.bind ?_ (fun _ => ?_))
     | exact ih0 _ _ _ _ _
     | exact ih1 _ _ _ _ _
     | exact QaG.mono _ _ _ _ _ _ _
     | exact LeO.none _
     | refine LeO.ite ?_ ?_
     | refine LeO.bind ?_ (fun _ => ?_)
   · intro y0 y1 y2 y3 y4
     unfold Qas.l0
     repeat' first
     | (with_reducible exact ih0 _ _ _ _ _)
     | (with_reducible exact ih1 _ _ _ _ _)
     | (with_reducible exact QaG.mono _ _ _ _ _ _ _)
     | (with_reducible exact LeO.refl _)
     | (with_reducible exact LeO.none _)
     | (with_reducible refine LeO.ite ?_ ?_)
     | (with_reducible refine LeO.bind ?_ (fun _ => ?_))
     | exact ih0 _ _ _ _ _
     | exact ih1 _ _ _ _ _
     | exact QaG.mono _ _ _ _ _ _ _
     | exact LeO.none _
     | refine LeO.ite ?_ ?_
     | refine LeO.bind ?_ (fun _ => ?_)
theorem Qas.mono : ∀ a0 a1 a2 a3 k, LeO (Qas.f k a0 a1 a2 a3) (Qas.f (k + 1) a0 a1 a2 a3) := by
 intro a0 a1 a2 a3 k
 obtain ⟨ih0, ih1⟩ := Qas.mono_l k
 unfold Qas.f
 repeat' first
  | (with_reducible exact ih0 _ _ _ _ _)
  | (with_reducible exact ih1 _ _ _ _ _)
  | (with_reducible exact QaG.mono _ _ _ _ _ _ _)
  | (with_reducible exact LeO.refl _)
  | (with_reducible exact LeO.none _)
  | (with_reducible refine LeO.ite ?_ ?_)
  | (with_reducible refine LeO.bind ?_ (fun _ => ?_))
  | exact ih0 _ _ _ _ _
  | exact ih1 _ _ _ _ _
  | exact QaG.mono _ _ _ _ _ _ _
  | exact LeO.none _
  | refine LeO.ite ?_ ?_
  | refine LeO.bind ?_ (fun _ => ?_)
def Qas.T6 : Bool × List (List Nat × List Nat) := (true, [([], []), ([], []), ([], []), ([2], [2]), ([], []), ([3, 4], [3, 4]), ([5], [5]), ([0, 1, 6], [0, 1, 6]), ([7], [7])])
def Qas.B6 : List Nat := [0, 0, 0, 4, 0, 28, 60, 127, 255]
theorem Qas.tab6 : rtab .any (opsOf Try.f102 6) = Qas.T6 := by kernel_rfl
theorem Qas.bits6 : QbZ Qas.T6.2 Qas.B6 = true := by kernel_rfl
set_option maxHeartbeats 8000000 in
set_option maxRecDepth 100000 in
theorem Qas.calls (k : Nat) (A0_0 : Option Addr) (c0_0 : Nat) (l0_0 : List (Qae)) (a1_0 : Int) (a1_1 : Int) (A1_2 : Option Addr) (c1_2 : Nat) (l1_2 : List (Qac)) (r : Bool) (w : World) (hr0_0 : Kd.C QaD w A0_0 l0_0.length l0_0) (hc0_0 : l0_0.length ≤ c0_0) (hr1_2 : Kd.C QaB w A1_2 l1_2.length l1_2) (hc1_2 : l1_2.length ≤ c1_2) (h : Qas.f k l0_0 a1_0 a1_1 l1_2 = some r) :
 Calls Try.prog 102 #[.agg #[.slice A0_0 l0_0.length c0_0], .agg #[.int .i64 a1_0, .int .i64 a1_1, .slice A1_2 l1_2.length c1_2]] w fun e w' => e = .returned (.bool r) ∧ Below w.heap.size w w' := by
 have hu25 := Try.underlying25
 have hu34 := Try.underlying34
 have hu83 := Try.underlying83
 have HR0_0 := Aside0.mk hr0_0
 have HC0_0 := Aside0.mk hc0_0
 clear hr0_0 hc0_0
 have HR1_2 := Aside0.mk hr1_2
 have HC1_2 := Aside0.mk hc1_2
 clear hr1_2 hc1_2
 have HB := Aside0.mk (Below.refl w.heap.size w)
 have H : ((QaM.f a1_0 0 2).bind fun t103 => (if t103 = true then ((QaM.f a1_1 a1_0 4).bind fun t104 => (if t104 = true then (Qas.j0 k (decide ((l1_2.length : Int) > 14)) l0_0 a1_0 a1_1 l1_2) else (Qas.j0 k true l0_0 a1_0 a1_1 l1_2))) else (Qas.j0 k true l0_0 a1_0 a1_1 l1_2))) = some r := h
 clear h
 have HC3 := Aside0.mk H
 clear H
 go_enter Try.func102, Try.ntmps102
 go_upto_region 1 with (first | ((with_reducible refine QaH (N := 2) rfl ?_); (try (refine Qa8 (by rfl) ?_; dsimp only)); refine QaN ?hg (N := 2) ?hd (cs := #[.slice A0_0 l0_0.length c0_0]) (t := 25) ?hr ?_; (case hd => rfl); (case hg => rfl); (case hr => first | (go_simp; done) | (go_simp; rfl)); intro gb101 hg w4 hbox hb; have n0_ := Aside0.mk (Qap (bw_) hb); have n1_ := Aside0.mk (hbox); have n2_ := Aside0.mk ((gs_ hg bw_ : w.heap.size ≤ gb101)); have n3_ := Aside0.mk ((gs_ hg bw_ : w.heap.size ≤ gb101)); clear HB; have HB := n0_; have BK101 := n1_; have GW101 := n2_; have GE101 := n3_; clear n0_ n1_ n2_ n3_; clear hb hbox hg) | ((with_reducible refine QaH (N := 3) rfl ?_); (try (refine Qa8 (by rfl) ?_; dsimp only)); refine QaN ?hg (N := 3) ?hd (cs := #[.int .i64 a1_0, .int .i64 a1_1, .slice A1_2 l1_2.length c1_2]) (t := 34) ?hr ?_; (case hd => rfl); (case hg => rfl); (case hr => first | (go_simp; done) | (go_simp; rfl)); intro gb102 hg w5 hbox hb; have n0_ := Aside0.mk (bb_ BK101 hb); have n1_ := Aside0.mk (Qap (bw_) hb); have n2_ := Aside0.mk (hbox); have n3_ := Aside0.mk ((gs_ hg bw_ : w.heap.size ≤ gb102)); have n4_ := Aside0.mk ((gs_ hg bw_ : w.heap.size ≤ gb102)); have n5_ := Aside0.mk ((nl_ hg BK101 : gb101 ≠ gb102)); have n6_ := Aside0.mk ((ng_ hg BK101 : gb102 ≠ gb101)); clear BK101; clear HB; have BK101 := n0_; have HB := n1_; have BK102 := n2_; have GW102 := n3_; have GE102 := n4_; have NB101_102 := n5_; have NB102_101 := n6_; clear n0_ n1_ n2_ n3_ n4_ n5_ n6_; clear hb hbox hg))
 (try simp only [Act.put, List.setIfInBounds_toArray, List.set_cons_zero, List.set_cons_succ])
 go_cut [23] (fun v23 wc => ∃ (kq : Nat) (x23_2 : Bool), v23 = .bool x23_2 ∧ Aside0 (Qas.j0 kq x23_2 l0_0 a1_0 a1_1 l1_2 = some r) ∧ Aside0 (kq ≤ k) ∧ Aside0 (wc.heap[gb101]? = some (.cells #[(.slice A0_0 l0_0.length c0_0)] 25 (0, 0))) ∧ Aside0 (wc.heap[gb102]? = some (.cells #[.int .i64 a1_0, .int .i64 a1_1, (.slice A1_2 l1_2.length c1_2)] 34 (0, 0))) ∧ Aside0 (Below w.heap.size w wc))
 case first =>
  have H := HC3.out
  clear HC3
  replace H := Option.bind_eq_some_iff.mp H
  obtain ⟨t103, A60, H⟩ := H
  replace H : (if t103 = true then ((QaM.f a1_1 a1_0 4).bind fun t104 => (if t104 = true then (Qas.j0 k (decide ((l1_2.length : Int) > 14)) l0_0 a1_0 a1_1 l1_2) else (Qas.j0 k true l0_0 a1_0 a1_1 l1_2))) else (Qas.j0 k true l0_0 a1_0 a1_1 l1_2)) = some r := H
  have A6 := Aside0.mk A60
  clear A60
  by_cases c7 : t103 = true
  · subst c7
    have H1 : ((QaM.f a1_1 a1_0 4).bind fun t104 => (if t104 = true then (Qas.j0 k (decide ((l1_2.length : Int) > 14)) l0_0 a1_0 a1_1 l1_2) else (Qas.j0 k true l0_0 a1_0 a1_1 l1_2))) = some r := by rw [if_pos rfl] at H; exact H
    clear H
    have H := H1
    clear H1
    replace H := Option.bind_eq_some_iff.mp H
    obtain ⟨t104, A80, H⟩ := H
    replace H : (if t104 = true then (Qas.j0 k (decide ((l1_2.length : Int) > 14)) l0_0 a1_0 a1_1 l1_2) else (Qas.j0 k true l0_0 a1_0 a1_1 l1_2)) = some r := H
    have A8 := Aside0.mk A80
    clear A80
    by_cases c9 : t104 = true
    · subst c9
      have H1 : (Qas.j0 k (decide ((l1_2.length : Int) > 14)) l0_0 a1_0 a1_1 l1_2) = some r := by rw [if_pos rfl] at H; exact H
      clear H
      have H := H1
      clear H1
      have H' := Aside0.mk H
      clear H
      have hnb10 := NB102_101.out
      have hnc10 := NB101_102.out
      have hcz11_0 : w5.cell? ⟨gb102, 0, none⟩ = some (.int .i64 a1_0) := (Qaf BK102.out 0).trans rfl
      have hcz11_1 : w5.cell? ⟨gb102, 1, none⟩ = some (.int .i64 a1_1) := (Qaf BK102.out 1).trans rfl
      have hcz11_2 : w5.cell? ⟨gb102, 2, none⟩ = some (.slice A1_2 l1_2.length c1_2) := (Qaf BK102.out 2).trans rfl
      have hfz11_0 := Qaj BK102.out 0
      have hfz11_1 := Qaj BK102.out 1
      have hfz11_2 := Qaj BK102.out 2
      go_wp2_with (first | ((with_reducible refine Qax (f := 58) rfl ?_); refine QaX (some 8) rfl rfl Try.func58 (by kernel_rfl) rfl #[.int .i64 a1_0, .int .i64 0, .int .i64 2] rfl (by (try simp only [List.map_toArray, List.map_cons, List.map_nil]); first | done | rfl | (simp only [List.length_drop, List.length_take]; rfl)) ?_; (with_reducible refine (QaM.calls a1_0 0 2 true _ A6.out).mono ?_); rintro e w' ⟨rfl, ⟨nd, rfl⟩⟩; refine ⟨_, rfl, ?_⟩) | (go_at_call 58; (with_reducible refine (QaM.calls a1_1 a1_0 4 true _ A8.out).mono ?_); rintro e w' ⟨rfl, ⟨nd, rfl⟩⟩))
      go_meet
      case rel => exact ⟨_, (decide ((l1_2.length : Int) > 14)), (by first | rfl | (simp; done) | (simp [*]; done)), H', ⟨by first | omega | exact Nat.le_refl _⟩, ⟨by (refine kb_ ?_); exact BK101.out⟩, ⟨by (refine kb_ ?_); exact BK102.out⟩, ⟨bw_⟩⟩
    · replace c9 := Bool.eq_false_iff.mpr c9
      subst c9
      have H1 : (Qas.j0 k true l0_0 a1_0 a1_1 l1_2) = some r := by rw [if_neg (show ¬ (false = true) by decide)] at H; exact H
      clear H
      have H := H1
      clear H1
      have H' := Aside0.mk H
      clear H
      have hnb12 := NB102_101.out
      have hnc12 := NB101_102.out
      have hcz13_0 : w5.cell? ⟨gb102, 0, none⟩ = some (.int .i64 a1_0) := (Qaf BK102.out 0).trans rfl
      have hcz13_1 : w5.cell? ⟨gb102, 1, none⟩ = some (.int .i64 a1_1) := (Qaf BK102.out 1).trans rfl
      have hcz13_2 : w5.cell? ⟨gb102, 2, none⟩ = some (.slice A1_2 l1_2.length c1_2) := (Qaf BK102.out 2).trans rfl
      have hfz13_0 := Qaj BK102.out 0
      have hfz13_1 := Qaj BK102.out 1
      have hfz13_2 := Qaj BK102.out 2
      go_wp2_with (first | ((with_reducible refine Qax (f := 58) rfl ?_); refine QaX (some 8) rfl rfl Try.func58 (by kernel_rfl) rfl #[.int .i64 a1_0, .int .i64 0, .int .i64 2] rfl (by (try simp only [List.map_toArray, List.map_cons, List.map_nil]); first | done | rfl | (simp only [List.length_drop, List.length_take]; rfl)) ?_; (with_reducible refine (QaM.calls a1_0 0 2 true _ A6.out).mono ?_); rintro e w' ⟨rfl, ⟨nd, rfl⟩⟩; refine ⟨_, rfl, ?_⟩) | (go_at_call 58; (with_reducible refine (QaM.calls a1_1 a1_0 4 false _ A8.out).mono ?_); rintro e w' ⟨rfl, ⟨nd, rfl⟩⟩))
      go_meet
      case rel => exact ⟨_, (true), (by first | rfl | (simp; done) | (simp [*]; done)), H', ⟨by first | omega | exact Nat.le_refl _⟩, ⟨by (refine kb_ ?_); exact BK101.out⟩, ⟨by (refine kb_ ?_); exact BK102.out⟩, ⟨bw_⟩⟩
  · replace c7 := Bool.eq_false_iff.mpr c7
    subst c7
    have H1 : (Qas.j0 k true l0_0 a1_0 a1_1 l1_2) = some r := by rw [if_neg (show ¬ (false = true) by decide)] at H; exact H
    clear H
    have H := H1
    clear H1
    have H' := Aside0.mk H
    clear H
    have hnb14 := NB102_101.out
    have hnc14 := NB101_102.out
    have hcz15_0 : w5.cell? ⟨gb102, 0, none⟩ = some (.int .i64 a1_0) := (Qaf BK102.out 0).trans rfl
    have hcz15_1 : w5.cell? ⟨gb102, 1, none⟩ = some (.int .i64 a1_1) := (Qaf BK102.out 1).trans rfl
    have hcz15_2 : w5.cell? ⟨gb102, 2, none⟩ = some (.slice A1_2 l1_2.length c1_2) := (Qaf BK102.out 2).trans rfl
    have hfz15_0 := Qaj BK102.out 0
    have hfz15_1 := Qaj BK102.out 1
    have hfz15_2 := Qaj BK102.out 2
    go_wp2_with (first | ((with_reducible refine Qax (f := 58) rfl ?_); refine QaX (some 8) rfl rfl Try.func58 (by kernel_rfl) rfl #[.int .i64 a1_0, .int .i64 0, .int .i64 2] rfl (by (try simp only [List.map_toArray, List.map_cons, List.map_nil]); first | done | rfl | (simp only [List.length_drop, List.length_take]; rfl)) ?_; (with_reducible refine (QaM.calls a1_0 0 2 false _ A6.out).mono ?_); rintro e w' ⟨rfl, ⟨nd, rfl⟩⟩; refine ⟨_, rfl, ?_⟩))
    go_meet
    case rel => exact ⟨_, (true), (by first | rfl | (simp; done) | (simp [*]; done)), H', ⟨by first | omega | exact Nat.le_refl _⟩, ⟨by (refine kb_ ?_); exact BK101.out⟩, ⟨by (refine kb_ ?_); exact BK102.out⟩, ⟨bw_⟩⟩
 case rest =>
  clear HC3
  try clear c1
  try clear p2
  try clear c5
  try clear c7
  try clear c9
  try clear c10
  try clear c12
  try clear c14
  try clear hcz11_0
  try clear hcz11_1
  try clear hcz11_2
  try clear hcz13_0
  try clear hcz13_1
  try clear hcz13_2
  try clear hcz15_0
  try clear hcz15_1
  try clear hcz15_2
  try clear hfz11_0
  try clear hfz11_1
  try clear hfz11_2
  try clear hfz13_0
  try clear hfz13_1
  try clear hfz13_2
  try clear hfz15_0
  try clear hfz15_1
  try clear hfz15_2
  obtain ⟨kq, x23_2, rfl, HA, HJ2, BK101, BK102, HB⟩ := hcut
  cases kq with
  | zero => exact absurd HA.out (by simp [Qas.j0])
  | succ kj2 =>
    have H := HA.out
    clear HA
    simp only [Qas.j0] at H
    by_cases c16 : x23_2 = true
    · subst c16
      have H1 : (some false) = some r := by rw [if_pos rfl] at H; exact H
      clear H
      have H := H1
      clear H1
      obtain rfl := Option.some.inj H
      go_wp2
      go_ret
      exact ⟨by first | rfl | (simp [Qan, Qao] <;> rfl) | (simp [*, Qan, Qao] <;> rfl), bw_⟩
    · replace c16 := Bool.eq_false_iff.mpr c16
      subst c16
      have H1 : (Qas.l0 kj2 0 l0_0 a1_0 a1_1 l1_2) = some r := by rw [if_neg (show ¬ (false = true) by decide)] at H; exact H
      clear H
      have H := H1
      clear H1
      have H' := Aside0.mk H
      clear H
      go_wp2
      go_loopg [5] kj2 (fun kq v5 w' => ∃ (x5_2 : Int), v5 = .int .i64 x5_2 ∧ Aside0 (Qas.l0 kq x5_2 l0_0 a1_0 a1_1 l1_2 = some r) ∧ Aside0 (kq ≤ kj2) ∧ Aside0 (w'.heap[gb101]? = some (.cells #[(.slice A0_0 l0_0.length c0_0)] 25 (0, 0))) ∧ Aside0 (w'.heap[gb102]? = some (.cells #[.int .i64 a1_0, .int .i64 a1_1, (.slice A1_2 l1_2.length c1_2)] 34 (0, 0))) ∧ Aside0 (Below w.heap.size w w'))
      case atStart => exact ⟨(0), (by first | rfl | (simp; done) | (simp [*]; done)), H', ⟨Nat.le_refl _⟩, ⟨by (refine kb_ ?_); exact BK101.out⟩, ⟨by (refine kb_ ?_); exact BK102.out⟩, ⟨bw_⟩⟩
      case round =>
       clear H'
       try clear c1
       try clear p2
       try clear c5
       try clear c7
       try clear c9
       try clear c10
       try clear c12
       try clear c14
       try clear c16
       try clear hcz11_0
       try clear hcz11_1
       try clear hcz11_2
       try clear hcz13_0
       try clear hcz13_1
       try clear hcz13_2
       try clear hcz15_0
       try clear hcz15_1
       try clear hcz15_2
       try clear hfz11_0
       try clear hfz11_1
       try clear hfz11_2
       try clear hfz13_0
       try clear hfz13_1
       try clear hfz13_2
       try clear hfz15_0
       try clear hfz15_1
       try clear hfz15_2
       try clear p2
       obtain ⟨x5_2, rfl, HA, HK2, BK101, BK102, HB⟩ := hrel
       cases gk with
       | zero => exact absurd HA.out (by simp [Qas.l0])
       | succ k2 =>
         have H := HA.out
         clear HA
         simp only [Qas.l0] at H
         by_cases c17 : x5_2 < (l1_2.length : Int)
         · rw [if_pos c17] at H
           have c17b0 : decide (x5_2 < (l1_2.length : Int)) = true := decide_eq_true c17
           clear c17
           by_cases c18 : 0 ≤ x5_2
           · rw [if_pos c18] at H
             have c18b0 : decide (0 ≤ x5_2) = true := decide_eq_true c18
             clear c18
             replace H := Option.bind_eq_some_iff.mp H
             obtain ⟨t106, A190, H⟩ := H
             replace H : (if t106 = true then (Qas.l0 k2 (wrap64 (x5_2 + 1)) l0_0 a1_0 a1_1 l1_2) else (some false)) = some r := H
             have A19 := Aside0.mk A190
             clear A190
             by_cases c20 : t106 = true
             · subst c20
               have H1 : (Qas.l0 k2 (wrap64 (x5_2 + 1)) l0_0 a1_0 a1_1 l1_2) = some r := by rw [if_pos rfl] at H; exact H
               clear H
               have H := H1
               clear H1
               have H' := Aside0.mk H
               clear H
               have hnb21 := NB102_101.out
               have hnc21 := NB101_102.out
               have hcz22_0 : wr.cell? ⟨gb102, 0, none⟩ = some (.int .i64 a1_0) := (Qaf BK102.out 0).trans rfl
               have hcz22_1 : wr.cell? ⟨gb102, 1, none⟩ = some (.int .i64 a1_1) := (Qaf BK102.out 1).trans rfl
               have hcz22_2 : wr.cell? ⟨gb102, 2, none⟩ = some (.slice A1_2 l1_2.length c1_2) := (Qaf BK102.out 2).trans rfl
               have hfz22_0 := Qaj BK102.out 0
               have hfz22_1 := Qaj BK102.out 1
               have hfz22_2 := Qaj BK102.out 2
               try go_wp2
               have n0_ := Aside0.mk (Qbf BK101.out)
               have n1_ := Aside0.mk (Qbf BK102.out)
               have n2_ := Aside0.mk (Qav HB.out)
               clear BK101
               clear BK102
               clear HB
               have BK101 := n0_
               have BK102 := n1_
               have HB := n2_
               clear n0_ n1_ n2_
               have p105 : 0 ≤ (x5_2 : Int) := of_decide_eq_true (by first | (with_reducible assumption) | assumption)
               have q105 : x5_2 < (l1_2.length : Int) := of_decide_eq_true (by first | (with_reducible assumption) | assumption)
               obtain ⟨ad105, e105, hx105_0, hx105_1⟩ := QbJ HR1_2.out x5_2 p105 q105
               have hw105_1 := hx105_1
               have hw105_0 := hx105_0
               cases e105
               replace hx105_0 := pc_ HB hx105_0
               replace hx105_1 := pc_ HB hx105_1
               replace p105 := eq_true p105
               replace q105 := eq_true q105
               refine Qch (n := 9) (S := fun w' => w'.cell? ⟨gb101, 0, none⟩ = some (.slice A0_0 l0_0.length c0_0) ∧ w'.cell? ⟨gb102, 0, none⟩ = some (.int .i64 a1_0) ∧ w'.cell? ⟨gb102, 1, none⟩ = some (.int .i64 a1_1) ∧ w'.cell? ⟨gb102, 2, none⟩ = some (.slice (some ad105) l1_2.length c1_2) ∧ w'.cell? (ad105.add ((x5_2).toNat * 2)) = some (.int .i64 ((Qah l1_2 x5_2).f0)) ∧ w'.cell? ⟨(ad105.add ((x5_2).toNat * 2)).block, (ad105.add ((x5_2).toNat * 2)).off + 1, none⟩ = some (.int .i64 ((Qah l1_2 x5_2).f1))) (ds := []) #[false, false, false, false, false, false, false, false, false] (by kernel_rfl) rfl rfl ⟨(Qaf BK101.out 0).trans rfl, (Qaf BK102.out 0).trans rfl, (Qaf BK102.out 1).trans rfl, (Qaf BK102.out 2).trans rfl, (pc_ HB hw105_0), (pc_ HB hw105_1)⟩ (fun hHeld => ?_); refine Qby Qas.tab6 Qas.bits6 (fun HT_ HW_ => ?_)
               generalize wr.drew = w23 at BK101 BK102 HB hx105_0 hx105_1 hHeld ⊢
               refine pu_ 2 (some 33) #[false, false, true, false, false, false, false, false, false] rfl rfl ?_
               refine pu_ 4 (some 35) #[false, false, true, false, true, false, false, false, false] rfl rfl ?_
               refine tk_ 0 (some 31) #[true, false, true, false, true, false, false, false, false] rfl rfl hHeld ?_
               refine tk_ 1 (some 32) #[true, true, true, false, true, false, false, false, false] rfl rfl hHeld ?_
               refine tk_ 3 (some 34) #[true, true, true, true, true, false, false, false, false] rfl rfl hHeld ?_
               refine pu_ 5 (some 36) #[true, true, true, true, true, true, false, false, false] rfl rfl ?_
               refine tk_ 6 (some 37) #[true, true, true, true, true, true, true, false, false] rfl rfl hHeld ?_
               refine one_ (i := 7) (N := some 38) #[true, true, true, true, true, true, true, true, false] rfl rfl (Qbw HT_.out (by kernel_rfl)) (by decide) (fun K hK => ?_)
               refine goes_ Try.func129 (by kernel_rfl) rfl #[.agg #[.slice A0_0 l0_0.length c0_0], .agg #[.int .i64 a1_0, .int .i64 a1_1, .slice (some ad105) l1_2.length c1_2], .agg #[.int .i64 ((Qah l1_2 x5_2).f0), .int .i64 ((Qah l1_2 x5_2).f1)]] (by rfl) rfl rfl (by (try simp only [List.map_toArray, List.map_cons, List.map_nil]); first | done | rfl | (simp only [List.length_drop, List.length_take]; rfl)) ?_
               with_reducible refine (QaG.calls k2 _ _ l0_0 a1_0 a1_1 _ _ l1_2 ((Qah l1_2 x5_2).f0) ((Qah l1_2 x5_2).f1) true _ ?side1 ?side2 ?side3 ?side4 A19.out).mono ?_
               (case side1 => exact cb_)
               (case side2 => exact HC0_0.out)
               (case side3 => exact cb_)
               (case side4 => exact HC1_2.out)
               rintro e w24 ⟨rfl, hb⟩
               refine ⟨_, rfl, ?_⟩
               have n0_ := Aside0.mk (bb_ BK101 hb)
               have n1_ := Aside0.mk (bb_ BK102 hb)
               have n2_ := Aside0.mk (Qap (bw_) hb)
               clear BK101
               clear BK102
               clear HB
               have BK101 := n0_
               have BK102 := n1_
               have HB := n2_
               clear n0_ n1_ n2_
               (try clear hb)
               (try clear hb2)
               (try clear hk)
               (try clear hi)
               refine hK.out _ _ ⟨(Qaf BK101.out 0).trans rfl, (Qaf BK102.out 0).trans rfl, (Qaf BK102.out 1).trans rfl, (Qaf BK102.out 2).trans rfl, (pc_ HB hw105_0), (pc_ HB hw105_1)⟩ (fun hHeld => ?_)
               clear hK K
               refine Qbo (a' := ?_) ?_ ?_
               rotate_left
               · show Act.put _ (some 38) _ = _
                 simp only [Act.put, List.setIfInBounds_toArray, List.set_cons_zero, List.set_cons_succ, Qbb, Qbd]
                 rfl
               refine pu_ 8 (some 39) #[true, true, true, true, true, true, true, true, true] rfl rfl ?_
               refine done_ (QbY HT_.out (by kernel_rfl)) ?_
               try go_wp2
               go_roundg k2
               case measure => have := HJ2.out; have := HK2.out; omega
               case rel => exact ⟨(wrap64 (x5_2 + 1)), (by first | rfl | (simp; done) | (simp [*]; done)), H', ⟨by have := HJ2.out; have := HK2.out; omega⟩, ⟨by (refine kb_ ?_); exact BK101.out⟩, ⟨by (refine kb_ ?_); exact BK102.out⟩, ⟨bw_⟩⟩
             · replace c20 := Bool.eq_false_iff.mpr c20
               subst c20
               have H1 : (some false) = some r := by rw [if_neg (show ¬ (false = true) by decide)] at H; exact H
               clear H
               have H := H1
               clear H1
               obtain rfl := Option.some.inj H
               have hnb25 := NB102_101.out
               have hnc25 := NB101_102.out
               have hcz26_0 : wr.cell? ⟨gb102, 0, none⟩ = some (.int .i64 a1_0) := (Qaf BK102.out 0).trans rfl
               have hcz26_1 : wr.cell? ⟨gb102, 1, none⟩ = some (.int .i64 a1_1) := (Qaf BK102.out 1).trans rfl
               have hcz26_2 : wr.cell? ⟨gb102, 2, none⟩ = some (.slice A1_2 l1_2.length c1_2) := (Qaf BK102.out 2).trans rfl
               have hfz26_0 := Qaj BK102.out 0
               have hfz26_1 := Qaj BK102.out 1
               have hfz26_2 := Qaj BK102.out 2
               try go_wp2
               have n0_ := Aside0.mk (Qbf BK101.out)
               have n1_ := Aside0.mk (Qbf BK102.out)
               have n2_ := Aside0.mk (Qav HB.out)
               clear BK101
               clear BK102
               clear HB
               have BK101 := n0_
               have BK102 := n1_
               have HB := n2_
               clear n0_ n1_ n2_
               have p105 : 0 ≤ (x5_2 : Int) := of_decide_eq_true (by first | (with_reducible assumption) | assumption)
               have q105 : x5_2 < (l1_2.length : Int) := of_decide_eq_true (by first | (with_reducible assumption) | assumption)
               obtain ⟨ad105, e105, hx105_0, hx105_1⟩ := QbJ HR1_2.out x5_2 p105 q105
               have hw105_1 := hx105_1
               have hw105_0 := hx105_0
               cases e105
               replace hx105_0 := pc_ HB hx105_0
               replace hx105_1 := pc_ HB hx105_1
               replace p105 := eq_true p105
               replace q105 := eq_true q105
               refine Qch (n := 9) (S := fun w' => w'.cell? ⟨gb101, 0, none⟩ = some (.slice A0_0 l0_0.length c0_0) ∧ w'.cell? ⟨gb102, 0, none⟩ = some (.int .i64 a1_0) ∧ w'.cell? ⟨gb102, 1, none⟩ = some (.int .i64 a1_1) ∧ w'.cell? ⟨gb102, 2, none⟩ = some (.slice (some ad105) l1_2.length c1_2) ∧ w'.cell? (ad105.add ((x5_2).toNat * 2)) = some (.int .i64 ((Qah l1_2 x5_2).f0)) ∧ w'.cell? ⟨(ad105.add ((x5_2).toNat * 2)).block, (ad105.add ((x5_2).toNat * 2)).off + 1, none⟩ = some (.int .i64 ((Qah l1_2 x5_2).f1))) (ds := []) #[false, false, false, false, false, false, false, false, false] (by kernel_rfl) rfl rfl ⟨(Qaf BK101.out 0).trans rfl, (Qaf BK102.out 0).trans rfl, (Qaf BK102.out 1).trans rfl, (Qaf BK102.out 2).trans rfl, (pc_ HB hw105_0), (pc_ HB hw105_1)⟩ (fun hHeld => ?_); refine Qby Qas.tab6 Qas.bits6 (fun HT_ HW_ => ?_)
               generalize wr.drew = w27 at BK101 BK102 HB hx105_0 hx105_1 hHeld ⊢
               refine pu_ 2 (some 33) #[false, false, true, false, false, false, false, false, false] rfl rfl ?_
               refine pu_ 4 (some 35) #[false, false, true, false, true, false, false, false, false] rfl rfl ?_
               refine tk_ 0 (some 31) #[true, false, true, false, true, false, false, false, false] rfl rfl hHeld ?_
               refine tk_ 1 (some 32) #[true, true, true, false, true, false, false, false, false] rfl rfl hHeld ?_
               refine tk_ 3 (some 34) #[true, true, true, true, true, false, false, false, false] rfl rfl hHeld ?_
               refine pu_ 5 (some 36) #[true, true, true, true, true, true, false, false, false] rfl rfl ?_
               refine tk_ 6 (some 37) #[true, true, true, true, true, true, true, false, false] rfl rfl hHeld ?_
               refine one_ (i := 7) (N := some 38) #[true, true, true, true, true, true, true, true, false] rfl rfl (Qbw HT_.out (by kernel_rfl)) (by decide) (fun K hK => ?_)
               refine goes_ Try.func129 (by kernel_rfl) rfl #[.agg #[.slice A0_0 l0_0.length c0_0], .agg #[.int .i64 a1_0, .int .i64 a1_1, .slice (some ad105) l1_2.length c1_2], .agg #[.int .i64 ((Qah l1_2 x5_2).f0), .int .i64 ((Qah l1_2 x5_2).f1)]] (by rfl) rfl rfl (by (try simp only [List.map_toArray, List.map_cons, List.map_nil]); first | done | rfl | (simp only [List.length_drop, List.length_take]; rfl)) ?_
               with_reducible refine (QaG.calls k2 _ _ l0_0 a1_0 a1_1 _ _ l1_2 ((Qah l1_2 x5_2).f0) ((Qah l1_2 x5_2).f1) false _ ?side1 ?side2 ?side3 ?side4 A19.out).mono ?_
               (case side1 => exact cb_)
               (case side2 => exact HC0_0.out)
               (case side3 => exact cb_)
               (case side4 => exact HC1_2.out)
               rintro e w28 ⟨rfl, hb⟩
               refine ⟨_, rfl, ?_⟩
               have n0_ := Aside0.mk (bb_ BK101 hb)
               have n1_ := Aside0.mk (bb_ BK102 hb)
               have n2_ := Aside0.mk (Qap (bw_) hb)
               clear BK101
               clear BK102
               clear HB
               have BK101 := n0_
               have BK102 := n1_
               have HB := n2_
               clear n0_ n1_ n2_
               (try clear hb)
               (try clear hb2)
               (try clear hk)
               (try clear hi)
               refine hK.out _ _ ⟨(Qaf BK101.out 0).trans rfl, (Qaf BK102.out 0).trans rfl, (Qaf BK102.out 1).trans rfl, (Qaf BK102.out 2).trans rfl, (pc_ HB hw105_0), (pc_ HB hw105_1)⟩ (fun hHeld => ?_)
               clear hK K
               refine Qbo (a' := ?_) ?_ ?_
               rotate_left
               · show Act.put _ (some 38) _ = _
                 simp only [Act.put, List.setIfInBounds_toArray, List.set_cons_zero, List.set_cons_succ, Qbb, Qbd]
                 rfl
               refine pu_ 8 (some 39) #[true, true, true, true, true, true, true, true, true] rfl rfl ?_
               refine done_ (QbY HT_.out (by kernel_rfl)) ?_
               try go_wp2
               go_ret
               exact ⟨by first | rfl | (simp [Qan, Qao] <;> rfl) | (simp [*, Qan, Qao] <;> rfl), bw_⟩
           · rw [if_neg c18] at H
             exact absurd H (by simp)
         · rw [if_neg c17] at H
           have c17b0 : decide (x5_2 < (l1_2.length : Int)) = false := decide_eq_false c17
           clear c17
           obtain rfl := Option.some.inj H
           have hnb29 := NB102_101.out
           have hnc29 := NB101_102.out
           have hcz30_0 : wr.cell? ⟨gb102, 0, none⟩ = some (.int .i64 a1_0) := (Qaf BK102.out 0).trans rfl
           have hcz30_1 : wr.cell? ⟨gb102, 1, none⟩ = some (.int .i64 a1_1) := (Qaf BK102.out 1).trans rfl
           have hcz30_2 : wr.cell? ⟨gb102, 2, none⟩ = some (.slice A1_2 l1_2.length c1_2) := (Qaf BK102.out 2).trans rfl
           have hfz30_0 := Qaj BK102.out 0
           have hfz30_1 := Qaj BK102.out 1
           have hfz30_2 := Qaj BK102.out 2
           go_wp2
           go_ret
           exact ⟨by first | rfl | (simp [Qan, Qao] <;> rfl) | (simp [*, Qan, Qao] <;> rfl), bw_⟩
end Go.Proofs.Ytabcijheemjplaa.G
namespace Go.Proofs.Ytabcijheemjplaa.G
open Go.RowKit Go.Proofs.YtabcijheemjplaaW.PrintWords Go.Proofs.YtabcijheemjplaaW.PrintLast Go.Proofs.YtabcijheemjplaaW.PrintMore
attribute [local go_sem] QaQ QaR Qa3 Qa4 QaJ QaK QaS QaT
set_option linter.unusedVariables false
set_option linter.unusedSimpArgs false
mutual
def Qaz.j0 : Nat → Bool → List (Qae) → Option (Bool)
 | 0, _, _ => none
 | k + 1, x16, x102000 => if x16 = true then (some false) else (Qaz.l0 k 0 x102000)
def Qaz.l0 : Nat → Int → List (Qae) → Option (Bool)
 | 0, _, _ => none
 | k + 1, x3, x102000 => if x3 < (x102000.length : Int) then (if 0 ≤ x3 then ((Qas.f k x102000 ((Qaa x102000 x3).f0) ((Qaa x102000 x3).f1) ((Qaa x102000 x3).f2)).bind fun t105 => (if t105 = true then (Qaz.l0 k (wrap64 (x3 + 1)) x102000) else (some false))) else (none)) else (some true)
end
def Qaz.f (k : Nat) (l0_0 : List (Qae)) : Option (Bool) := (QaM.f (l0_0.length : Int) 1 4).bind fun t102 => (if t102 = true then (if 0 < (l0_0.length : Int) then (Qaz.j0 k (((Qaa l0_0 0).f0) != 0) l0_0) else (none)) else (Qaz.j0 k true l0_0))
theorem Qaz.mono_l : ∀ k, (∀ y0 y1, LeO (Qaz.j0 k y0 y1) (Qaz.j0 (k + 1) y0 y1)) ∧ (∀ y0 y1, LeO (Qaz.l0 k y0 y1) (Qaz.l0 (k + 1) y0 y1))
 | 0 => ⟨fun _ _ r h => by simp [Qaz.j0] at h, fun _ _ r h => by simp [Qaz.l0] at h⟩
 | k + 1 => by
   obtain ⟨ih0, ih1⟩ := Qaz.mono_l k
   refine ⟨?_, ?_⟩
   · intro y0 y1
     unfold Qaz.j0
     repeat' first
     | (with_reducible exact ih0 _ _)
     | (with_reducible exact ih1 _ _)
     | (with_reducible exact Qas.mono _ _ _ _ _)
     | (with_reducible exact LeO.refl _)
     | (with_reducible exact LeO.none _)
     | (with_reducible refine LeO.ite ?_ ?_)
     | (with_reducible refine LeO.bind ?_ (fun _ => ?_))
     | exact ih0 _ _
     | exact ih1 _ _
     | exact Qas.mono _ _ _ _ _
     | exact LeO.none _
     | refine LeO.ite ?_ ?_
     | refine LeO.bind ?_ (fun _ => ?_)
   · intro y0 y1
     unfold Qaz.l0
     repeat' first
     | (with_reducible exact ih0 _ _)
     | (with_reducible exact ih1 _ _)
     | (with_reducible exact Qas.mono _ _ _ _ _)
     | (with_reducible exact LeO.refl _)
     | (with_reducible exact LeO.none _)
     | (with_reducible refine LeO.ite ?_ ?_)
     | (with_reducible refine LeO.bind ?_ (fun _ => ?_))
     | exact ih0 _ _
     | exact ih1 _ _
     | exact Qas.mono _ _ _ _ _
     | exact LeO.none _
     | refine LeO.ite ?_ ?_
     | refine LeO.bind ?_ (fun _ => ?_)
theorem Qaz.mono : ∀ a0 k, LeO (Qaz.f k a0) (Qaz.f (k + 1) a0) := by
 intro a0 k
 obtain ⟨ih0, ih1⟩ := Qaz.mono_l k
 unfold Qaz.f
 repeat' first
  | (with_reducible exact ih0 _ _)
  | (with_reducible exact ih1 _ _)
  | (with_reducible exact Qas.mono _ _ _ _ _)
  | (with_reducible exact LeO.refl _)
  | (with_reducible exact LeO.none _)
  | (with_reducible refine LeO.ite ?_ ?_)
  | (with_reducible refine LeO.bind ?_ (fun _ => ?_))
  | exact ih0 _ _
  | exact ih1 _ _
  | exact Qas.mono _ _ _ _ _
  | exact LeO.none _
  | refine LeO.ite ?_ ?_
  | refine LeO.bind ?_ (fun _ => ?_)
def Qaz.T6 : Bool × List (List Nat × List Nat) := (true, [([], []), ([], []), ([1], [1]), ([], []), ([2, 3], [2, 3]), ([4], [4]), ([0, 5], [0, 5]), ([6], [6])])
def Qaz.B6 : List Nat := [0, 0, 2, 0, 14, 30, 63, 127]
theorem Qaz.tab6 : rtab .any (opsOf Try.f57 6) = Qaz.T6 := by kernel_rfl
theorem Qaz.bits6 : QbZ Qaz.T6.2 Qaz.B6 = true := by kernel_rfl
set_option maxHeartbeats 8000000 in
set_option maxRecDepth 100000 in
theorem Qaz.calls (k : Nat) (A0_0 : Option Addr) (c0_0 : Nat) (l0_0 : List (Qae)) (r : Bool) (w : World) (hr0_0 : Kd.C QaD w A0_0 l0_0.length l0_0) (hc0_0 : l0_0.length ≤ c0_0) (h : Qaz.f k l0_0 = some r) :
 Calls Try.prog 57 #[.agg #[.slice A0_0 l0_0.length c0_0]] w fun e w' => e = .returned (.bool r) ∧ Below w.heap.size w w' := by
 have hu25 := Try.underlying25
 have hu34 := Try.underlying34
 have HR0_0 := Aside0.mk hr0_0
 have HC0_0 := Aside0.mk hc0_0
 clear hr0_0 hc0_0
 have HB := Aside0.mk (Below.refl w.heap.size w)
 have H : ((QaM.f (l0_0.length : Int) 1 4).bind fun t102 => (if t102 = true then (if 0 < (l0_0.length : Int) then (Qaz.j0 k (((Qaa l0_0 0).f0) != 0) l0_0) else (none)) else (Qaz.j0 k true l0_0))) = some r := h
 clear h
 have HC2 := Aside0.mk H
 clear H
 go_enter Try.func57, Try.ntmps57
 go_upto_region 1 with (first | ((with_reducible refine QaH (N := 1) rfl ?_); refine QaN ?hg (N := 1) ?hd (cs := #[.slice A0_0 l0_0.length c0_0]) (t := 25) ?hr ?_; (case hd => rfl); (case hg => rfl); (case hr => first | (go_simp; done) | (go_simp; rfl)); intro gb101 hg w3 hbox hb; have n0_ := Aside0.mk (Qap (bw_) hb); have n1_ := Aside0.mk (hbox); have n2_ := Aside0.mk ((gs_ hg bw_ : w.heap.size ≤ gb101)); have n3_ := Aside0.mk ((gs_ hg bw_ : w.heap.size ≤ gb101)); clear HB; have HB := n0_; have BK101 := n1_; have GW101 := n2_; have GE101 := n3_; clear n0_ n1_ n2_ n3_; clear hb hbox hg))
 (try simp only [Act.put, List.setIfInBounds_toArray, List.set_cons_zero, List.set_cons_succ])
 go_cut [16] (fun v16 wc => ∃ (kq : Nat) (x16_1 : Bool), v16 = .bool x16_1 ∧ Aside0 (Qaz.j0 kq x16_1 l0_0 = some r) ∧ Aside0 (kq ≤ k) ∧ Aside0 (wc.heap[gb101]? = some (.cells #[(.slice A0_0 l0_0.length c0_0)] 25 (0, 0))) ∧ Aside0 (Below w.heap.size w wc))
 case first =>
  have H := HC2.out
  clear HC2
  replace H := Option.bind_eq_some_iff.mp H
  obtain ⟨t102, A40, H⟩ := H
  replace H : (if t102 = true then (if 0 < (l0_0.length : Int) then (Qaz.j0 k (((Qaa l0_0 0).f0) != 0) l0_0) else (none)) else (Qaz.j0 k true l0_0)) = some r := H
  have A4 := Aside0.mk A40
  clear A40
  by_cases c5 : t102 = true
  · subst c5
    have H1 : (if 0 < (l0_0.length : Int) then (Qaz.j0 k (((Qaa l0_0 0).f0) != 0) l0_0) else (none)) = some r := by rw [if_pos rfl] at H; exact H
    clear H
    have H := H1
    clear H1
    by_cases c6 : 0 < (l0_0.length : Int)
    · rw [if_pos c6] at H
      have c6b0 : decide (0 < (l0_0.length : Int)) = true := decide_eq_true c6
      have c6b1 : decide (0 < l0_0.length) = true := decide_eq_true (by omega)
      clear c6
      (first | rw [c6b0] | (simp only [Qbb, Qbd]; rw [c6b0]) | skip)
      have H' := Aside0.mk H
      clear H
      have hcz7_0 : w3.cell? ⟨gb101, 0, none⟩ = some (.slice A0_0 l0_0.length c0_0) := (Qaf BK101.out 0).trans rfl
      have hfz7_0 := Qaj BK101.out 0
      go_wp2_with (first | ((with_reducible refine Qax (f := 58) rfl ?_); refine QaX (some 7) rfl rfl Try.func58 (by kernel_rfl) rfl #[.int .i64 (l0_0.length : Int), .int .i64 1, .int .i64 4] rfl (by (try simp only [List.map_toArray, List.map_cons, List.map_nil]); first | done | rfl | (simp only [List.length_drop, List.length_take]; rfl)) ?_; (with_reducible refine (QaM.calls (l0_0.length : Int) 1 4 true _ A4.out).mono ?_); rintro e w' ⟨rfl, ⟨nd, rfl⟩⟩; refine ⟨_, rfl, ?_⟩; have p103 : 0 ≤ (0 : Int) := (by omega); have q103 : 0 < (l0_0.length : Int) := of_decide_eq_true (by first | (with_reducible assumption) | assumption); obtain ⟨ad103, A103_2, c103_2, e103, hx103_0, hx103_1, hx103_2, hl103_2, hi103_2⟩ := Qba HR0_0.out 0 p103 q103; cases e103; have qi103 : (0 < l0_0.length) = True := eq_true (by omega); (try rw [show ((0 : Int)).toNat = 0 from rfl] at hx103_0); (try rw [show 0 * 3 = 0 from rfl] at hx103_0); (try rw [Addr.add_zero'] at hx103_0); (try rw [show ((0 : Int)).toNat = 0 from rfl] at hx103_1); (try rw [show 0 * 3 = 0 from rfl] at hx103_1); (try rw [Addr.add_zero'] at hx103_1); (try rw [show ((0 : Int)).toNat = 0 from rfl] at hx103_2); (try rw [show 0 * 3 = 0 from rfl] at hx103_2); (try rw [Addr.add_zero'] at hx103_2); replace hx103_0 := (HB.out.cell (World.block_lt_of_cell? w _ hx103_0)).trans hx103_0; replace hx103_1 := (HB.out.cell (World.block_lt_of_cell? w _ hx103_1)).trans hx103_1; replace hx103_2 := (HB.out.cell (World.block_lt_of_cell? w _ hx103_2)).trans hx103_2; have HR103_2 := Aside0.mk hi103_2; have HC103_2 := Aside0.mk hl103_2; clear hi103_2 hl103_2; replace p103 := eq_true p103; replace q103 := eq_true q103))
      go_meet
      case rel => exact ⟨_, ((((Qaa l0_0 0).f0) != 0)), (by first | rfl | (simp; done) | (simp [*]; done)), H', ⟨by first | omega | exact Nat.le_refl _⟩, ⟨by (refine kb_ ?_); exact BK101.out⟩, ⟨bw_⟩⟩
    · rw [if_neg c6] at H
      exact absurd H (by simp)
  · replace c5 := Bool.eq_false_iff.mpr c5
    subst c5
    have H1 : (Qaz.j0 k true l0_0) = some r := by rw [if_neg (show ¬ (false = true) by decide)] at H; exact H
    clear H
    have H := H1
    clear H1
    have H' := Aside0.mk H
    clear H
    have hcz8_0 : w3.cell? ⟨gb101, 0, none⟩ = some (.slice A0_0 l0_0.length c0_0) := (Qaf BK101.out 0).trans rfl
    have hfz8_0 := Qaj BK101.out 0
    go_wp2_with (first | ((with_reducible refine Qax (f := 58) rfl ?_); refine QaX (some 7) rfl rfl Try.func58 (by kernel_rfl) rfl #[.int .i64 (l0_0.length : Int), .int .i64 1, .int .i64 4] rfl (by (try simp only [List.map_toArray, List.map_cons, List.map_nil]); first | done | rfl | (simp only [List.length_drop, List.length_take]; rfl)) ?_; (with_reducible refine (QaM.calls (l0_0.length : Int) 1 4 false _ A4.out).mono ?_); rintro e w' ⟨rfl, ⟨nd, rfl⟩⟩; refine ⟨_, rfl, ?_⟩))
    go_meet
    case rel => exact ⟨_, (true), (by first | rfl | (simp; done) | (simp [*]; done)), H', ⟨by first | omega | exact Nat.le_refl _⟩, ⟨by (refine kb_ ?_); exact BK101.out⟩, ⟨bw_⟩⟩
 case rest =>
  clear HC2
  try clear c1
  try clear p1
  try clear q1
  try clear hx1
  try clear qi1
  try clear p2
  try clear c5
  try clear c6
  try clear c6b0
  try clear c6b1
  try clear hcz7_0
  try clear hcz8_0
  try clear hfz7_0
  try clear hfz8_0
  try clear hx103_0
  try clear hx103_1
  try clear hx103_2
  try clear p103
  try clear q103
  obtain ⟨kq, x16_1, rfl, HA, HJ1, BK101, HB⟩ := hcut
  cases kq with
  | zero => exact absurd HA.out (by simp [Qaz.j0])
  | succ kj1 =>
    have H := HA.out
    clear HA
    simp only [Qaz.j0] at H
    by_cases c9 : x16_1 = true
    · subst c9
      have H1 : (some false) = some r := by rw [if_pos rfl] at H; exact H
      clear H
      have H := H1
      clear H1
      obtain rfl := Option.some.inj H
      go_wp2
      go_ret
      exact ⟨by first | rfl | (simp [Qan, Qao] <;> rfl) | (simp [*, Qan, Qao] <;> rfl), bw_⟩
    · replace c9 := Bool.eq_false_iff.mpr c9
      subst c9
      have H1 : (Qaz.l0 kj1 0 l0_0) = some r := by rw [if_neg (show ¬ (false = true) by decide)] at H; exact H
      clear H
      have H := H1
      clear H1
      have H' := Aside0.mk H
      clear H
      go_wp2
      go_loopg [3] kj1 (fun kq v3 w' => ∃ (x3_2 : Int), v3 = .int .i64 x3_2 ∧ Aside0 (Qaz.l0 kq x3_2 l0_0 = some r) ∧ Aside0 (kq ≤ kj1) ∧ Aside0 (w'.heap[gb101]? = some (.cells #[(.slice A0_0 l0_0.length c0_0)] 25 (0, 0))) ∧ Aside0 (Below w.heap.size w w'))
      case atStart => exact ⟨(0), (by first | rfl | (simp; done) | (simp [*]; done)), H', ⟨Nat.le_refl _⟩, ⟨by (refine kb_ ?_); exact BK101.out⟩, ⟨bw_⟩⟩
      case round =>
       clear H'
       try clear c1
       try clear p1
       try clear q1
       try clear hx1
       try clear qi1
       try clear p2
       try clear c5
       try clear c6
       try clear c6b0
       try clear c6b1
       try clear c9
       try clear hcz7_0
       try clear hcz8_0
       try clear hfz7_0
       try clear hfz8_0
       try clear hx103_0
       try clear hx103_1
       try clear hx103_2
       try clear p1
       try clear p103
       try clear p2
       try clear q1
       try clear q103
       obtain ⟨x3_2, rfl, HA, HK2, BK101, HB⟩ := hrel
       cases gk with
       | zero => exact absurd HA.out (by simp [Qaz.l0])
       | succ k2 =>
         have H := HA.out
         clear HA
         simp only [Qaz.l0] at H
         by_cases c10 : x3_2 < (l0_0.length : Int)
         · rw [if_pos c10] at H
           have c10b0 : decide (x3_2 < (l0_0.length : Int)) = true := decide_eq_true c10
           clear c10
           by_cases c11 : 0 ≤ x3_2
           · rw [if_pos c11] at H
             have c11b0 : decide (0 ≤ x3_2) = true := decide_eq_true c11
             clear c11
             replace H := Option.bind_eq_some_iff.mp H
             obtain ⟨t105, A120, H⟩ := H
             replace H : (if t105 = true then (Qaz.l0 k2 (wrap64 (x3_2 + 1)) l0_0) else (some false)) = some r := H
             have A12 := Aside0.mk A120
             clear A120
             by_cases c13 : t105 = true
             · subst c13
               have H1 : (Qaz.l0 k2 (wrap64 (x3_2 + 1)) l0_0) = some r := by rw [if_pos rfl] at H; exact H
               clear H
               have H := H1
               clear H1
               have H' := Aside0.mk H
               clear H
               have hcz14_0 : wr.cell? ⟨gb101, 0, none⟩ = some (.slice A0_0 l0_0.length c0_0) := (Qaf BK101.out 0).trans rfl
               have hfz14_0 := Qaj BK101.out 0
               try go_wp2
               have n0_ := Aside0.mk (Qbf BK101.out)
               have n1_ := Aside0.mk (Qav HB.out)
               clear BK101
               clear HB
               have BK101 := n0_
               have HB := n1_
               clear n0_ n1_
               have p104 : 0 ≤ (x3_2 : Int) := of_decide_eq_true (by first | (with_reducible assumption) | assumption)
               have q104 : x3_2 < (l0_0.length : Int) := of_decide_eq_true (by first | (with_reducible assumption) | assumption)
               obtain ⟨ad104, A104_2, c104_2, e104, hx104_0, hx104_1, hx104_2, hl104_2, hi104_2⟩ := Qba HR0_0.out x3_2 p104 q104
               have hw104_2 := hx104_2
               have hw104_1 := hx104_1
               have hw104_0 := hx104_0
               cases e104
               replace hx104_0 := pc_ HB hx104_0
               replace hx104_1 := pc_ HB hx104_1
               replace hx104_2 := pc_ HB hx104_2
               have HR104_2 := Aside0.mk hi104_2
               have HC104_2 := Aside0.mk hl104_2
               clear hi104_2 hl104_2
               replace p104 := eq_true p104
               replace q104 := eq_true q104
               refine Qch (n := 8) (S := fun w' => w'.cell? ⟨gb101, 0, none⟩ = some (.slice (some ad104) l0_0.length c0_0) ∧ w'.cell? (ad104.add ((x3_2).toNat * 3)) = some (.int .i64 ((Qaa l0_0 x3_2).f0)) ∧ w'.cell? ⟨(ad104.add ((x3_2).toNat * 3)).block, (ad104.add ((x3_2).toNat * 3)).off + 1, none⟩ = some (.int .i64 ((Qaa l0_0 x3_2).f1)) ∧ w'.cell? ⟨(ad104.add ((x3_2).toNat * 3)).block, (ad104.add ((x3_2).toNat * 3)).off + 2, none⟩ = some (.slice A104_2 ((Qaa l0_0 x3_2).f2).length c104_2)) (ds := []) #[false, false, false, false, false, false, false, false] (by kernel_rfl) rfl rfl ⟨(Qaf BK101.out 0).trans rfl, (pc_ HB hw104_0), (pc_ HB hw104_1), (pc_ HB hw104_2)⟩ (fun hHeld => ?_); refine Qby Qaz.tab6 Qaz.bits6 (fun HT_ HW_ => ?_)
               generalize wr.drew = w15 at BK101 HB HR104_2 hx104_0 hx104_1 hx104_2 hHeld ⊢
               refine pu_ 1 (some 25) #[false, true, false, false, false, false, false, false] rfl rfl ?_
               refine pu_ 3 (some 27) #[false, true, false, true, false, false, false, false] rfl rfl ?_
               refine tk_ 0 (some 24) #[true, true, false, true, false, false, false, false] rfl rfl hHeld ?_
               refine tk_ 2 (some 26) #[true, true, true, true, false, false, false, false] rfl rfl hHeld ?_
               refine pu_ 4 (some 28) #[true, true, true, true, true, false, false, false] rfl rfl ?_
               refine tk_ 5 (some 29) #[true, true, true, true, true, true, false, false] rfl rfl hHeld ?_
               refine one_ (i := 6) (N := some 30) #[true, true, true, true, true, true, true, false] rfl rfl (Qbw HT_.out (by kernel_rfl)) (by decide) (fun K hK => ?_)
               refine goes_ Try.func102 (by kernel_rfl) rfl #[.agg #[.slice (some ad104) l0_0.length c0_0], .agg #[.int .i64 ((Qaa l0_0 x3_2).f0), .int .i64 ((Qaa l0_0 x3_2).f1), .slice A104_2 ((Qaa l0_0 x3_2).f2).length c104_2]] (by rfl) rfl rfl (by (try simp only [List.map_toArray, List.map_cons, List.map_nil]); first | done | rfl | (simp only [List.length_drop, List.length_take]; rfl)) ?_
               with_reducible refine (Qas.calls k2 _ _ l0_0 ((Qaa l0_0 x3_2).f0) ((Qaa l0_0 x3_2).f1) _ _ ((Qaa l0_0 x3_2).f2) true _ ?side1 ?side2 ?side3 ?side4 A12.out).mono ?_
               (case side1 => exact cb_)
               (case side2 => exact HC0_0.out)
               (case side3 => exact cb_)
               (case side4 => exact HC104_2.out)
               rintro e w16 ⟨rfl, hb⟩
               refine ⟨_, rfl, ?_⟩
               have n0_ := Aside0.mk (bb_ BK101 hb)
               have n1_ := Aside0.mk (Qap (bw_) hb)
               clear BK101
               clear HB
               have BK101 := n0_
               have HB := n1_
               clear n0_ n1_
               (try clear hb)
               (try clear hb2)
               (try clear hk)
               (try clear hi)
               refine hK.out _ _ ⟨(Qaf BK101.out 0).trans rfl, (pc_ HB hw104_0), (pc_ HB hw104_1), (pc_ HB hw104_2)⟩ (fun hHeld => ?_)
               clear hK K
               refine Qbo (a' := ?_) ?_ ?_
               rotate_left
               · show Act.put _ (some 30) _ = _
                 simp only [Act.put, List.setIfInBounds_toArray, List.set_cons_zero, List.set_cons_succ, Qbb, Qbd]
                 rfl
               refine pu_ 7 (some 31) #[true, true, true, true, true, true, true, true] rfl rfl ?_
               refine done_ (QbY HT_.out (by kernel_rfl)) ?_
               try go_wp2
               go_roundg k2
               case measure => have := HJ1.out; have := HK2.out; omega
               case rel => exact ⟨(wrap64 (x3_2 + 1)), (by first | rfl | (simp; done) | (simp [*]; done)), H', ⟨by have := HJ1.out; have := HK2.out; omega⟩, ⟨by (refine kb_ ?_); exact BK101.out⟩, ⟨bw_⟩⟩
             · replace c13 := Bool.eq_false_iff.mpr c13
               subst c13
               have H1 : (some false) = some r := by rw [if_neg (show ¬ (false = true) by decide)] at H; exact H
               clear H
               have H := H1
               clear H1
               obtain rfl := Option.some.inj H
               have hcz17_0 : wr.cell? ⟨gb101, 0, none⟩ = some (.slice A0_0 l0_0.length c0_0) := (Qaf BK101.out 0).trans rfl
               have hfz17_0 := Qaj BK101.out 0
               try go_wp2
               have n0_ := Aside0.mk (Qbf BK101.out)
               have n1_ := Aside0.mk (Qav HB.out)
               clear BK101
               clear HB
               have BK101 := n0_
               have HB := n1_
               clear n0_ n1_
               have p104 : 0 ≤ (x3_2 : Int) := of_decide_eq_true (by first | (with_reducible assumption) | assumption)
               have q104 : x3_2 < (l0_0.length : Int) := of_decide_eq_true (by first | (with_reducible assumption) | assumption)
               obtain ⟨ad104, A104_2, c104_2, e104, hx104_0, hx104_1, hx104_2, hl104_2, hi104_2⟩ := Qba HR0_0.out x3_2 p104 q104
               have hw104_2 := hx104_2
               have hw104_1 := hx104_1
               have hw104_0 := hx104_0
               cases e104
               replace hx104_0 := pc_ HB hx104_0
               replace hx104_1 := pc_ HB hx104_1
               replace hx104_2 := pc_ HB hx104_2
               have HR104_2 := Aside0.mk hi104_2
               have HC104_2 := Aside0.mk hl104_2
               clear hi104_2 hl104_2
               replace p104 := eq_true p104
               replace q104 := eq_true q104
               refine Qch (n := 8) (S := fun w' => w'.cell? ⟨gb101, 0, none⟩ = some (.slice (some ad104) l0_0.length c0_0) ∧ w'.cell? (ad104.add ((x3_2).toNat * 3)) = some (.int .i64 ((Qaa l0_0 x3_2).f0)) ∧ w'.cell? ⟨(ad104.add ((x3_2).toNat * 3)).block, (ad104.add ((x3_2).toNat * 3)).off + 1, none⟩ = some (.int .i64 ((Qaa l0_0 x3_2).f1)) ∧ w'.cell? ⟨(ad104.add ((x3_2).toNat * 3)).block, (ad104.add ((x3_2).toNat * 3)).off + 2, none⟩ = some (.slice A104_2 ((Qaa l0_0 x3_2).f2).length c104_2)) (ds := []) #[false, false, false, false, false, false, false, false] (by kernel_rfl) rfl rfl ⟨(Qaf BK101.out 0).trans rfl, (pc_ HB hw104_0), (pc_ HB hw104_1), (pc_ HB hw104_2)⟩ (fun hHeld => ?_); refine Qby Qaz.tab6 Qaz.bits6 (fun HT_ HW_ => ?_)
               generalize wr.drew = w18 at BK101 HB HR104_2 hx104_0 hx104_1 hx104_2 hHeld ⊢
               refine pu_ 1 (some 25) #[false, true, false, false, false, false, false, false] rfl rfl ?_
               refine pu_ 3 (some 27) #[false, true, false, true, false, false, false, false] rfl rfl ?_
               refine tk_ 0 (some 24) #[true, true, false, true, false, false, false, false] rfl rfl hHeld ?_
               refine tk_ 2 (some 26) #[true, true, true, true, false, false, false, false] rfl rfl hHeld ?_
               refine pu_ 4 (some 28) #[true, true, true, true, true, false, false, false] rfl rfl ?_
               refine tk_ 5 (some 29) #[true, true, true, true, true, true, false, false] rfl rfl hHeld ?_
               refine one_ (i := 6) (N := some 30) #[true, true, true, true, true, true, true, false] rfl rfl (Qbw HT_.out (by kernel_rfl)) (by decide) (fun K hK => ?_)
               refine goes_ Try.func102 (by kernel_rfl) rfl #[.agg #[.slice (some ad104) l0_0.length c0_0], .agg #[.int .i64 ((Qaa l0_0 x3_2).f0), .int .i64 ((Qaa l0_0 x3_2).f1), .slice A104_2 ((Qaa l0_0 x3_2).f2).length c104_2]] (by rfl) rfl rfl (by (try simp only [List.map_toArray, List.map_cons, List.map_nil]); first | done | rfl | (simp only [List.length_drop, List.length_take]; rfl)) ?_
               with_reducible refine (Qas.calls k2 _ _ l0_0 ((Qaa l0_0 x3_2).f0) ((Qaa l0_0 x3_2).f1) _ _ ((Qaa l0_0 x3_2).f2) false _ ?side1 ?side2 ?side3 ?side4 A12.out).mono ?_
               (case side1 => exact cb_)
               (case side2 => exact HC0_0.out)
               (case side3 => exact cb_)
               (case side4 => exact HC104_2.out)
               rintro e w19 ⟨rfl, hb⟩
               refine ⟨_, rfl, ?_⟩
               have n0_ := Aside0.mk (bb_ BK101 hb)
               have n1_ := Aside0.mk (Qap (bw_) hb)
               clear BK101
               clear HB
               have BK101 := n0_
               have HB := n1_
               clear n0_ n1_
               (try clear hb)
               (try clear hb2)
               (try clear hk)
               (try clear hi)
               refine hK.out _ _ ⟨(Qaf BK101.out 0).trans rfl, (pc_ HB hw104_0), (pc_ HB hw104_1), (pc_ HB hw104_2)⟩ (fun hHeld => ?_)
               clear hK K
               refine Qbo (a' := ?_) ?_ ?_
               rotate_left
               · show Act.put _ (some 30) _ = _
                 simp only [Act.put, List.setIfInBounds_toArray, List.set_cons_zero, List.set_cons_succ, Qbb, Qbd]
                 rfl
               refine pu_ 7 (some 31) #[true, true, true, true, true, true, true, true] rfl rfl ?_
               refine done_ (QbY HT_.out (by kernel_rfl)) ?_
               try go_wp2
               go_ret
               exact ⟨by first | rfl | (simp [Qan, Qao] <;> rfl) | (simp [*, Qan, Qao] <;> rfl), bw_⟩
           · rw [if_neg c11] at H
             exact absurd H (by simp)
         · rw [if_neg c10] at H
           have c10b0 : decide (x3_2 < (l0_0.length : Int)) = false := decide_eq_false c10
           clear c10
           obtain rfl := Option.some.inj H
           have hcz20_0 : wr.cell? ⟨gb101, 0, none⟩ = some (.slice A0_0 l0_0.length c0_0) := (Qaf BK101.out 0).trans rfl
           have hfz20_0 := Qaj BK101.out 0
           go_wp2
           go_ret
           exact ⟨by first | rfl | (simp [Qan, Qao] <;> rfl) | (simp [*, Qan, Qao] <;> rfl), bw_⟩
end Go.Proofs.Ytabcijheemjplaa.G
