import Derived.Test.YtabcijheemjplaaK47733c20
import Derived.Test.YtabcijheemjplaaK0321b31e
namespace Go.Proofs.Ytabcijheemjplaa.G
open Go.RowKit Go.Proofs.YtabcijheemjplaaW.PrintWords Go.Proofs.YtabcijheemjplaaW.PrintLast Go.Proofs.YtabcijheemjplaaW.PrintMore
attribute [local go_sem] QaP QaQ Qa2 Qa3 QaJ QaK QaR QaS
set_option linter.unusedVariables false
set_option linter.unusedSimpArgs false
mutual
def QaA.l0 : Nat → List Int → Int → List Int → Int → Option ((List (Qae)) × Int)
 | 0, _, _, _, _ => none
 | k + 1, x3, x4, x1000, x1001 => if x4 > 0 then ((Qab.f k x1000 x1001 3).bind fun bt107 => (if x3.length < 17592186044416 then (QaA.l0 k (x3 ++ [bt107.1]) (wrap64 (x4 - 1)) x1000 bt107.2) else (none))) else (QaA.l1 k x3 0 x1000 x1001 ([] : List (Qae)))
def QaA.l1 : Nat → List Int → Int → List Int → Int → List (Qae) → Option ((List (Qae)) × Int)
 | 0, _, _, _, _, _ => none
 | k + 1, x3, x6, x1000, x1001, x113000 => if x6 < (x3.length : Int) then ((Qag.f k x1000 x1001 x3 x6).bind fun bt113 => (if x113000.length < 3518437208883 then (QaA.l1 k x3 (wrap64 (x6 + 1)) x1000 bt113.2.2.2 (x113000 ++ [(⟨bt113.1, bt113.2.1, bt113.2.2.1⟩ : Qae)])) else (none))) else (some (x113000, x1001))
end
def QaA.f (k : Nat) (s0_0 : List Int) (s0_1 : Int) : Option ((List (Qae)) × Int) := (Qab.f k s0_0 s0_1 3).bind fun bt105 => (QaA.l0 k (([0] : List Int)) (wrap64 (1 + bt105.1)) s0_0 bt105.2)
theorem QaA.mono_l : ∀ k, (∀ y0 y1 y2 y3, LeO (QaA.l0 k y0 y1 y2 y3) (QaA.l0 (k + 1) y0 y1 y2 y3)) ∧ (∀ y0 y1 y2 y3 y4, LeO (QaA.l1 k y0 y1 y2 y3 y4) (QaA.l1 (k + 1) y0 y1 y2 y3 y4))
 | 0 => ⟨fun _ _ _ _ r h => by simp [QaA.l0] at h, fun _ _ _ _ _ r h => by simp [QaA.l1] at h⟩
 | k + 1 => by
   obtain ⟨ih0, ih1⟩ := QaA.mono_l k
   refine ⟨?_, ?_⟩
   · intro y0 y1 y2 y3
     unfold QaA.l0
     repeat' first
     | (with_reducible exact ih0 _ _ _ _)
     | (with_reducible exact ih1 _ _ _ _ _)
     | (with_reducible exact Qab.mono _ _ _ _)
     | (with_reducible exact Qag.mono _ _ _ _ _)
     | (with_reducible exact LeO.refl _)
     | (with_reducible exact LeO.none _)
     | (with_reducible refine LeO.ite ?_ ?_)
     | (with_reducible refine LeO.bind ?_ (fun _ => ?_))
     | exact ih0 _ _ _ _
     | exact ih1 _ _ _ _ _
     | exact Qab.mono _ _ _ _
     | exact Qag.mono _ _ _ _ _
     | exact LeO.none _
     | refine LeO.ite ?_ ?_
     | refine LeO.bind ?_ (fun _ => ?_)
   · intro y0 y1 y2 y3 y4
     unfold QaA.l1
     repeat' first
     | (with_reducible exact ih0 _ _ _ _)
     | (with_reducible exact ih1 _ _ _ _ _)
     | (with_reducible exact Qab.mono _ _ _ _)
     | (with_reducible exact Qag.mono _ _ _ _ _)
     | (with_reducible exact LeO.refl _)
     | (with_reducible exact LeO.none _)
     | (with_reducible refine LeO.ite ?_ ?_)
     | (with_reducible refine LeO.bind ?_ (fun _ => ?_))
     | exact ih0 _ _ _ _
     | exact ih1 _ _ _ _ _
     | exact Qab.mono _ _ _ _
     | exact Qag.mono _ _ _ _ _
     | exact LeO.none _
     | refine LeO.ite ?_ ?_
     | refine LeO.bind ?_ (fun _ => ?_)
theorem QaA.mono : ∀ a0 a1 k, LeO (QaA.f k a0 a1) (QaA.f (k + 1) a0 a1) := by
 intro a0 a1 k
 obtain ⟨ih0, ih1⟩ := QaA.mono_l k
 unfold QaA.f
 repeat' first
  | (with_reducible exact ih0 _ _ _ _)
  | (with_reducible exact ih1 _ _ _ _ _)
  | (with_reducible exact Qab.mono _ _ _ _)
  | (with_reducible exact Qag.mono _ _ _ _ _)
  | (with_reducible exact LeO.refl _)
  | (with_reducible exact LeO.none _)
  | (with_reducible refine LeO.ite ?_ ?_)
  | (with_reducible refine LeO.bind ?_ (fun _ => ?_))
  | exact ih0 _ _ _ _
  | exact ih1 _ _ _ _ _
  | exact Qab.mono _ _ _ _
  | exact Qag.mono _ _ _ _ _
  | exact LeO.none _
  | refine LeO.ite ?_ ?_
  | refine LeO.bind ?_ (fun _ => ?_)
def QaA.T10 : Bool × List (List Nat × List Nat) := (true, [([], []), ([0], [0]), ([], []), ([], []), ([], []), ([2, 3, 4], [2, 3, 4]), ([5], [5]), ([1, 6, 5], [1, 6]), ([0, 1, 2, 3, 4, 5, 6, 7], []), ([8, 7, 7, 0, 1, 2, 3, 4, 5, 6, 7], [7, 8])])
def QaA.B10 : List Nat := [0, 1, 0, 0, 0, 28, 60, 127, 255, 511]
theorem QaA.tab10 : rtab .any (opsOf Try.f54 10) = QaA.T10 := by kernel_rfl
theorem QaA.bits10 : QbZ QaA.T10.2 QaA.B10 = true := by kernel_rfl
set_option maxHeartbeats 8000000 in
set_option maxRecDepth 100000 in
theorem QaA.calls (k : Nat) (g : Nat) (s0_0 : List Int) (s0_1 : Int) (r1 : List (Qae)) (r2 : Int) (w0 w : World) (hI : Qad w0 w g s0_0 s0_1) (hB : Below w0.heap.size w0 w) (h : QaA.f k s0_0 s0_1 = some (r1, r2)) :
 Calls Try.prog 54 #[.pointer (some ⟨g, 0, none⟩)] w fun e w' => ∃ v0_ : Value, e = .returned (.agg #[v0_]) ∧ Kd.S QaD 34 w' w.heap.size (fun _ => True) v0_ r1 ∧ Qad w0 w' g s0_0 r2 ∧ Below w0.heap.size w0 w' ∧ Qai w w' g none := by
 have hu25 := Try.underlying25
 have HI0 := Aside0.mk hI
 have HK := Aside0.mk (Qai.refl w g none)
 have HL := Aside0.mk hB.size
 clear hI
 have HW0 := Aside0.mk hB.size
 have HB := Aside0.mk hB
 clear hB
 have H : ((Qab.f k s0_0 s0_1 3).bind fun bt105 => (QaA.l0 k (([0] : List Int)) (wrap64 (1 + bt105.1)) s0_0 bt105.2)) = some (r1, r2) := h
 clear h
 obtain ⟨y102, hy102⟩ : ∃ y_ : List Int, y_ = (([0] : List Int)) := ⟨_, rfl⟩
 replace H : ((Qab.f k s0_0 s0_1 3).bind fun bt105 => (QaA.l0 k y102 (wrap64 (1 + bt105.1)) s0_0 bt105.2)) = some (r1, r2) := by first | (rw [hy102]; with_reducible exact H) | (have H2_ := (Option.bind_some _ _).symm.trans H; rw [hy102]; with_reducible exact H2_) | (have H2_ := (Option.bind_some _ _).symm.trans H; with_reducible exact H2_) | with_reducible exact H | (rw [hy102]; exact H) | exact H
 have Ny102 := Aside0.mk hy102
 clear hy102
 replace H := Option.bind_eq_some_iff.mp H
 obtain ⟨⟨t105, t106⟩, A20, H⟩ := H
 replace H : (QaA.l0 k y102 (wrap64 (1 + t105)) s0_0 t106) = some (r1, r2) := H
 have A2 := Aside0.mk A20
 clear A20
 have H' := Aside0.mk H
 clear H
 go_enter Try.func54, Try.ntmps54
 go_wp2_with (first | ((with_reducible refine QaH (N := 2) rfl ?_); refine QaN ?hg (N := 2) ?hd (cs := #[.slice none 0 0]) (t := 25) ?hr ?_; (case hd => rfl); (case hg => rfl); (case hr => first | (go_simp; done) | (go_simp; rfl)); intro gb101 hg w3 hbox hb; have n0_ := Aside0.mk (Qad.below (ki_) hb); have n1_ := Aside0.mk (Qai.trans (kk_) (Qai.of_below hb g none) (.inl rfl)); have n2_ := Aside0.mk (Qap (bx_) hb); have n3_ := Aside0.mk (hbox); have n4_ := Aside0.mk ((by rw [hg]; exact (QaC (w := w) (g := g) (row := none) (kk_)) : w.heap.size ≤ gb101)); have n5_ := Aside0.mk ((Nat.le_trans HW0.out (by rw [hg]; exact (QaC (w := w) (g := g) (row := none) (kk_)) : w.heap.size ≤ gb101) : w0.heap.size ≤ gb101)); have n6_ := Aside0.mk ((by rw [hg]; exact Nat.ne_of_lt (Qad.lt (show Qad w0 _ g s0_0 s0_1 from ki_)) : g ≠ gb101)); have n7_ := Aside0.mk ((by rw [hg]; exact Nat.ne_of_gt (Qad.lt (show Qad w0 _ g s0_0 s0_1 from ki_)) : gb101 ≠ g)); clear HI0; clear HK; clear HB; have HI0 := n0_; have HK := n1_; have HB := n2_; have BK101 := n3_; have GW101 := n4_; have GE101 := n5_; have NB0_101 := n6_; have NB101_0 := n7_; clear n0_ n1_ n2_ n3_ n4_ n5_ n6_ n7_; clear hb hbox hg) | ((with_reducible refine QaH (N := 7) rfl ?_); refine Kd.R_lit (Kd.int .i64) _ 3 ?hg (N := 7) ?hd (xs := ([0] : List Int)) (inner := [.int .i64 0]) (ok := fun _ => True) (okp := fun _ => True) ?hr ?hp (fun _ hk => hk) trivial (Below.refl _ _) (Nat.le_refl _) (by simp) ?_; (case hd => rfl); (case hg => rfl); (case hr => first | (go_simp; done) | (go_simp; rfl)); (case hp => exact (Qa9.one (show Kd.M (Kd.int .i64) _ _ _ 0 [.int .i64 0] from rfl) (Qa9.none _ _))); intro v103 w4 ho5 hb hg_ hnew_; clear hg_ hnew_; (first | rw [← Ny102.out] at ho5 | (simp only [Int.reduceToNat] at ho5; rw [← Ny102.out] at ho5)); have n0_ := Aside0.mk (Kd.R_lower ho5 (QaC (w := w) (g := g) (row := none) (kk_))); have n1_ := Aside0.mk (Qad.below (ki_) hb); have n2_ := Aside0.mk (bb_ BK101 hb); have n3_ := Aside0.mk (Qai.trans (kk_) (Qai.of_below hb g none) (.inl rfl)); have n4_ := Aside0.mk (Qap (bx_) hb); clear HI0; clear BK101; clear HK; clear HB; have HO104 := n0_; have HI0 := n1_; have BK101 := n2_; have HK := n3_; have HB := n4_; clear n0_ n1_ n2_ n3_ n4_; clear hb ho5) | ((with_reducible refine Qax (f := 55) rfl ?_); refine QaX (some 9) rfl rfl Try.func55 (by kernel_rfl) rfl #[.pointer (some ⟨g, 0, none⟩), .int .i64 3] rfl (by (try simp only [List.map_toArray, List.map_cons, List.map_nil]); first | done | rfl | (simp only [List.length_drop, List.length_take]; rfl)) ?_; (with_reducible refine (Qab.calls k g s0_0 s0_1 3 t105 t106 w0 _ ?side1 ?side2 A2.out).mono ?_); (case side1 => repeat (first | (with_reducible first | exact HI0.out | apply Qad.alloc | apply Qad.drewN | apply Qad.drew | apply Qad.set_1 | refine Qad.far ?_ NB0_101.out _) | exact HI0.out)); (case side2 => repeat (first | (with_reducible first | exact HB.out | apply Qal | apply Qar | apply Qav | refine Qaw ?_ (Qad.ge HI0.out) | refine Qaw ?_ GE101.out) | exact HB.out)); rintro e w6 ⟨rfl, hi, hb, hk⟩; refine ⟨_, rfl, ?_⟩; have n0_ := Aside0.mk (Qai.blk hk (g' := gb101) (o := .cells #[.slice none 0 0] 25 (0, 0)) (by (refine kb_ ?_); exact BK101.out) NB101_0.out (by simp)); have n1_ := Aside0.mk (Kd.R_mono (Kd.R_keep (Qad.apart (show Qad w0 _ g s0_0 s0_1 from ki_) (by (refine QaT ?_); exact HO104.out) (by decide)) hk (fun _ h => h.2)) (fun _ h => h.1)); have n2_ := Aside0.mk (Qai.trans (kk_) hk (.inl rfl)); have n3_ := Aside0.mk (hb); have n4_ := Aside0.mk (hi); clear BK101; clear HO104; clear HK; clear HB; clear HI0; have BK101 := n0_; have HO104 := n1_; have HK := n2_; have HB := n3_; have HI0 := n4_; clear n0_ n1_ n2_ n3_ n4_; (try clear hb); (try clear hb2); (try clear hk); (try clear hi)))
 go_loopg [3, 4] k (fun kq v3 v4 w' => ∃ (x3_1 : List Int) (x4_1 : Int) (x1001_1 : Int), v4 = .int .i64 x4_1 ∧ Aside0 (QaA.l0 kq x3_1 x4_1 s0_0 x1001_1 = some (r1, r2)) ∧ Aside0 (kq ≤ k) ∧ Aside0 (Kd.R (Kd.int .i64) 3 w' w.heap.size (fun _ => True) v3 x3_1) ∧ Aside0 (w'.heap[gb101]? = some (.cells #[(.slice none 0 0)] 25 (0, 0))) ∧ Aside0 (Qad w0 w' g s0_0 x1001_1) ∧ Aside0 (Qai w w' g none) ∧ Aside0 (Below w0.heap.size w0 w'))
 case atStart => exact ⟨(y102), (wrap64 (1 + t105)), (t106), (by first | rfl | (simp; done) | (simp [*]; done)), H', ⟨Nat.le_refl _⟩, ⟨by (refine QaT ?_); exact HO104.out⟩, ⟨by (refine kb_ ?_); exact BK101.out⟩, ⟨ki_⟩, ⟨kk_⟩, ⟨bx_⟩⟩
 case round =>
  clear H'
  try clear p2
  try clear c5
  try clear p6
  obtain ⟨x3_1, x4_1, x1001_1, rfl, HA, HK1, HO_3, BK101, HI0, HK, HB⟩ := hrel
  cases gk with
  | zero => exact absurd HA.out (by simp [QaA.l0])
  | succ k1 =>
    have H := HA.out
    clear HA
    simp only [QaA.l0] at H
    by_cases c7 : x4_1 > 0
    · rw [if_pos c7] at H
      have c7b0 : decide (0 < x4_1) = true := decide_eq_true c7
      clear c7
      replace H := Option.bind_eq_some_iff.mp H
      obtain ⟨⟨t107, t108⟩, A80, H⟩ := H
      replace H : (if x3_1.length < 17592186044416 then (QaA.l0 k1 (x3_1 ++ [t107]) (wrap64 (x4_1 - 1)) s0_0 t108) else (none)) = some (r1, r2) := H
      have A8 := Aside0.mk A80
      clear A80
      by_cases c9 : x3_1.length < 17592186044416
      · rw [if_pos c9] at H
        have LMc9 := Aside0.mk c9
        clear c9
        obtain ⟨y109, hy109⟩ : ∃ y_ : List Int, y_ = (x3_1 ++ [t107]) := ⟨_, rfl⟩
        replace H : (QaA.l0 k1 y109 (wrap64 (x4_1 - 1)) s0_0 t108) = some (r1, r2) := by first | (rw [hy109]; with_reducible exact H) | (have H2_ := (Option.bind_some _ _).symm.trans H; rw [hy109]; with_reducible exact H2_) | (have H2_ := (Option.bind_some _ _).symm.trans H; with_reducible exact H2_) | with_reducible exact H | (rw [hy109]; exact H) | exact H
        have Ny109 := Aside0.mk hy109
        clear hy109
        have H' := Aside0.mk H
        clear H
        go_wp2_with (first | ((with_reducible refine Qax (f := 55) rfl ?_); refine QaX (some 17) rfl rfl Try.func55 (by kernel_rfl) rfl #[.pointer (some ⟨g, 0, none⟩), .int .i64 3] rfl (by (try simp only [List.map_toArray, List.map_cons, List.map_nil]); first | done | rfl | (simp only [List.length_drop, List.length_take]; rfl)) ?_; (with_reducible refine (Qab.calls k1 g s0_0 x1001_1 3 t107 t108 w0 _ ?side1 ?side2 A8.out).mono ?_); (case side1 => repeat (first | (with_reducible first | exact HI0.out | apply Qad.alloc | apply Qad.drewN | apply Qad.drew | apply Qad.set_1 | refine Qad.far ?_ NB0_101.out _) | exact HI0.out)); (case side2 => repeat (first | (with_reducible first | exact HB.out | apply Qal | apply Qar | apply Qav | refine Qaw ?_ (Qad.ge HI0.out) | refine Qaw ?_ GE101.out) | exact HB.out)); rintro e w10 ⟨rfl, hi, hb, hk⟩; refine ⟨_, rfl, ?_⟩; have n0_ := Aside0.mk (Kd.R_mono (Kd.R_keep (Qad.apart (show Qad w0 _ g s0_0 x1001_1 from ki_) (by (refine QaT ?_); exact HO_3.out) (by decide)) hk (fun _ h => h.2)) (fun _ h => h.1)); have n1_ := Aside0.mk (Qai.blk hk (g' := gb101) (o := .cells #[.slice none 0 0] 25 (0, 0)) (by (refine kb_ ?_); exact BK101.out) NB101_0.out (by simp)); have n2_ := Aside0.mk (Qai.trans (kk_) hk (.inl rfl)); have n3_ := Aside0.mk (hb); have n4_ := Aside0.mk (hi); clear HO_3; clear BK101; clear HK; clear HB; clear HI0; have HO_3 := n0_; have BK101 := n1_; have HK := n2_; have HB := n3_; have HI0 := n4_; clear n0_ n1_ n2_ n3_ n4_; (try clear hb); (try clear hb2); (try clear hk); (try clear hi)) | ((with_reducible refine QaW (b := .append) (xs := #[.tmp 15, .tmp 18]) rfl ?_); at_builtin; refine Kd.R_append (Kd.int .i64) w.heap.size rfl (.tmp 15) (.tmp 18) 28 3 (.int .i64 0) 8 rfl Try.underlying28 info3 rfl (by decide) (by omega) u3 x3_1 t107 [.int .i64 t107] (fun _ => True) (fun _ => False) rfl rfl ?aP (fun _ hk => hk.elim) ?aF ?aO (Below.refl _ _) ?aS ?aL ?_; (case aP => exact rfl); (case aF => exact (fun _ _ => trivial)); (case aO => exact (by (refine QaT ?_); exact HO_3.out)); (case aS => exact (QaC (w := w) (g := g) (row := none) (kk_))); (case aL => have := LMc9.out; omega); intro v110 w11 ho hb hg hat; rw [← Ny109.out] at ho; have n0_ := Aside0.mk (QaU (g := gb101) (o := .cells #[.slice none 0 0] 25 (0, 0)) (by (refine kb_ ?_); exact BK101.out) hg (Kd.R_ne HO_3.out BK101.out (by decide))); have n1_ := Aside0.mk (Qad.grown (ki_) hg (Qad.own_ne HI0.out HO_3.out (by decide))); have n2_ := Aside0.mk (Qa5 (bx_) HL.out hb); have n3_ := Aside0.mk (Qai.trans (kk_) (Qai.of_grown hg g) (Kd.R_base2 HO_3.out)); have n4_ := Aside0.mk (ho); clear BK101; clear HI0; clear HB; clear HK; clear HO_3; have BK101 := n0_; have HI0 := n1_; have HB := n2_; have HK := n3_; have HO111 := n4_; clear n0_ n1_ n2_ n3_ n4_; clear ho hb hg hat))
        go_roundg k1
        case measure => have := HK1.out; omega
        case rel => exact ⟨(y109), (wrap64 (x4_1 - 1)), (t108), (by first | rfl | (simp; done) | (simp [*]; done)), H', ⟨by have := HK1.out; omega⟩, ⟨by (refine QaT ?_); exact HO111.out⟩, ⟨by (refine kb_ ?_); exact BK101.out⟩, ⟨ki_⟩, ⟨kk_⟩, ⟨bx_⟩⟩
      · rw [if_neg c9] at H
        exact absurd H (by simp)
    · rw [if_neg c7] at H
      have c7b0 : decide (0 < x4_1) = false := decide_eq_false c7
      clear c7
      have H' := Aside0.mk H
      clear H
      go_wp2_with (first | ((with_reducible refine QaH (N := 5) rfl ?_); refine QaN ?hg (N := 5) ?hd (cs := #[.slice none 0 0]) (t := 25) ?hr ?_; (case hd => rfl); (case hg => rfl); (case hr => first | (go_simp; done) | (go_simp; rfl)); intro gb112 hg w12 hbox hb; have n0_ := Aside0.mk (Kd.R_below (by (refine QaT ?_); exact HO_3.out) hb); have n1_ := Aside0.mk (bb_ BK101 hb); have n2_ := Aside0.mk (Qad.below (ki_) hb); have n3_ := Aside0.mk (Qai.trans (kk_) (Qai.of_below hb g none) (.inl rfl)); have n4_ := Aside0.mk (Qap (bx_) hb); have n5_ := Aside0.mk (hbox); have n6_ := Aside0.mk ((by rw [hg]; exact (QaC (w := w) (g := g) (row := none) (kk_)) : w.heap.size ≤ gb112)); have n7_ := Aside0.mk ((Nat.le_trans HW0.out (by rw [hg]; exact (QaC (w := w) (g := g) (row := none) (kk_)) : w.heap.size ≤ gb112) : w0.heap.size ≤ gb112)); have n8_ := Aside0.mk ((nl_ hg BK101 : gb101 ≠ gb112)); have n9_ := Aside0.mk ((ng_ hg BK101 : gb112 ≠ gb101)); have n10_ := Aside0.mk ((by rw [hg]; exact Nat.ne_of_lt (Qad.lt (show Qad w0 _ g s0_0 x1001_1 from ki_)) : g ≠ gb112)); have n11_ := Aside0.mk ((by rw [hg]; exact Nat.ne_of_gt (Qad.lt (show Qad w0 _ g s0_0 x1001_1 from ki_)) : gb112 ≠ g)); clear HO_3; clear BK101; clear HI0; clear HK; clear HB; have HO_3 := n0_; have BK101 := n1_; have HI0 := n2_; have HK := n3_; have HB := n4_; have BK112 := n5_; have GW112 := n6_; have GE112 := n7_; have NB101_112 := n8_; have NB112_101 := n9_; have NB0_112 := n10_; have NB112_0 := n11_; clear n0_ n1_ n2_ n3_ n4_ n5_ n6_ n7_ n8_ n9_ n10_ n11_; clear hb hbox hg; have hnb13 := NB112_101.out; have hnc13 := NB101_112.out; have hnb14 := NB112_0.out; have hnc14 := NB0_112.out; obtain ⟨hcz15_0, hfz15_0⟩ := blkF1_ BK112.out))
      go_loopg [6] k1 (fun kq v6 w' => ∃ (x6_2 : Int) (x1001_2 : Int) (x113000_2 : List (Qae)) (u113000 : Value), v6 = .int .i64 x6_2 ∧ Aside0 (QaA.l1 kq x3_1 x6_2 s0_0 x1001_2 x113000_2 = some (r1, r2)) ∧ Aside0 (kq ≤ k1) ∧ Aside0 (Kd.R (Kd.int .i64) 3 w' w.heap.size (fun _ => True) u3 x3_1) ∧ Aside0 (Kd.S QaD 34 w' w.heap.size (fun _ => True) u113000 x113000_2) ∧ Aside0 (w'.heap[gb101]? = some (.cells #[(.slice none 0 0)] 25 (0, 0))) ∧ Aside0 (w'.heap[gb112]? = some (.cells #[u113000] 25 (0, 0))) ∧ Aside0 (Qad w0 w' g s0_0 x1001_2) ∧ Aside0 (Qai w w' g none) ∧ Aside0 (Below w0.heap.size w0 w'))
      case atStart => exact ⟨(0), (x1001_1), (([] : List (Qae))), (.slice none 0 0), (by first | rfl | (simp; done) | (simp [*]; done)), H', ⟨Nat.le_refl _⟩, ⟨by (refine QaT ?_); exact Kd.R_mono (Kd.R_far (p := ⟨gb112, 0, none⟩) (Kd.R_types HO_3.out BK112.out (by decide)) (fun _ hk => hk.2) (.slice none 0 0)) (fun _ hk => trivial)⟩, ⟨by first | exact Kd.S_nil _ _ _ _ _ | exact Kd.N_nil _ _ _ _ _ | exact Kd.V_nil _ _ _ _ _ | exact Kd.Q_nil _ _ _ _ _ | exact Kd.R_nil _ _ _ _ _⟩, ⟨by (refine kb_ ?_); refine Qbe ?_ NB101_112.out _; (refine kb_ ?_); exact BK101.out⟩, ⟨by (refine kb_ ?_); refine Qbc (cs := #[.slice none 0 0]) ?_ 0 _ rfl; (refine kb_ ?_); exact BK112.out⟩, ⟨ki_⟩, ⟨kk_⟩, ⟨bx_⟩⟩
      case round =>
       clear H'
       try clear c1
       try clear p2
       try clear c5
       try clear p6
       try clear c7
       try clear c7b0
       try clear c9
       try clear c13
       try clear c14
       try clear hcz15_0
       try clear hfz15_0
       try clear p2
       try clear p6
       obtain ⟨x6_2, x1001_2, x113000_2, u113000, rfl, HA, HK2, HO_3, HO_113000, BK101, BK112, HI0, HK, HB⟩ := hrel
       cases gk with
       | zero => exact absurd HA.out (by simp [QaA.l1])
       | succ k2 =>
         have H := HA.out
         clear HA
         simp only [QaA.l1] at H
         by_cases c16 : x6_2 < (x3_1.length : Int)
         · rw [if_pos c16] at H
           have c16b0 : decide (x6_2 < (x3_1.length : Int)) = true := decide_eq_true c16
           clear c16
           replace H := Option.bind_eq_some_iff.mp H
           obtain ⟨⟨t113, t114, t115, t118⟩, A170, H⟩ := H
           replace H : (if x113000_2.length < 3518437208883 then (QaA.l1 k2 x3_1 (wrap64 (x6_2 + 1)) s0_0 t118 (x113000_2 ++ [(⟨t113, t114, t115⟩ : Qae)])) else (none)) = some (r1, r2) := H
           have A17 := Aside0.mk A170
           clear A170
           by_cases c18 : x113000_2.length < 3518437208883
           · rw [if_pos c18] at H
             have LMc18 := Aside0.mk c18
             clear c18
             obtain ⟨y119, hy119⟩ : ∃ y_ : List (Qae), y_ = (x113000_2 ++ [(⟨t113, t114, t115⟩ : Qae)]) := ⟨_, rfl⟩
             replace H : (QaA.l1 k2 x3_1 (wrap64 (x6_2 + 1)) s0_0 t118 y119) = some (r1, r2) := by first | (rw [hy119]; with_reducible exact H) | (have H2_ := (Option.bind_some _ _).symm.trans H; rw [hy119]; with_reducible exact H2_) | (have H2_ := (Option.bind_some _ _).symm.trans H; with_reducible exact H2_) | with_reducible exact H | (rw [hy119]; exact H) | exact H
             have Ny119 := Aside0.mk hy119
             clear hy119
             have H' := Aside0.mk H
             clear H
             obtain ⟨Ao19, co19, eo19⟩ := Kd.R_slice HO_3.out
             subst eo19
             try go_wp2
             have n0_ := Aside0.mk (Kd.R_drew HO_3.out)
             have n1_ := Aside0.mk (Kd.S_drew HO_113000.out)
             have n2_ := Aside0.mk (Qbf BK101.out)
             have n3_ := Aside0.mk (Qbf BK112.out)
             have n4_ := Aside0.mk (Qad.drew HI0.out)
             have n5_ := Aside0.mk (Qcp HK.out)
             have n6_ := Aside0.mk (Qav HB.out)
             clear HO_3
             clear HO_113000
             clear BK101
             clear BK112
             clear HI0
             clear HK
             clear HB
             have HO_3 := n0_
             have HO_113000 := n1_
             have BK101 := n2_
             have BK112 := n3_
             have HI0 := n4_
             have HK := n5_
             have HB := n6_
             clear n0_ n1_ n2_ n3_ n4_ n5_ n6_
             refine Qch (n := 10) (S := fun w' => w'.cell? ⟨gb112, 0, none⟩ = some (u113000)) (ds := [9]) #[false, false, false, false, false, false, false, false, false, false] (by kernel_rfl) rfl rfl ((Qaf BK112.out 0).trans rfl) (fun hHeld => ?_); refine Qby QaA.tab10 QaA.bits10 (fun HT_ HW_ => ?_)
             generalize wr.drew = w20 at HO_3 HO_113000 BK101 BK112 HI0 HK HB hHeld ⊢
             refine pu_ 0 (some 27) #[true, false, false, false, false, false, false, false, false, false] rfl rfl ?_
             refine pu_ 2 (some 29) #[true, false, true, false, false, false, false, false, false, false] rfl rfl ?_
             refine pu_ 3 (some 30) #[true, false, true, true, false, false, false, false, false, false] rfl rfl ?_
             refine pu_ 4 (some 31) #[true, false, true, true, true, false, false, false, false, false] rfl rfl ?_
             refine tk_ 1 (some 28) #[true, true, true, true, true, false, false, false, false, false] rfl rfl hHeld ?_
             refine one_ (i := 5) (N := some 32) #[true, true, true, true, true, true, false, false, false, false] rfl rfl (Qbw HT_.out (by kernel_rfl)) (by decide) (fun K hK => ?_)
             refine goes_ Try.func101 (by kernel_rfl) rfl #[.pointer (some ⟨g, 0, none⟩), .slice Ao19 x3_1.length co19, .int .i64 x6_2] (by rfl) rfl rfl (by (try simp only [List.map_toArray, List.map_cons, List.map_nil]); first | done | rfl | (simp only [List.length_drop, List.length_take]; rfl)) ?_
             with_reducible refine (Qag.calls k2 g s0_0 x1001_2 _ _ x3_1 x6_2 t113 t114 t115 t118 w0 _ ?side1 ?side2 ?side3 ?side4 ?side5 A17.out).mono ?_
             (case side1 => repeat (first | (with_reducible first | exact HI0.out | apply Qad.alloc | apply Qad.drewN | apply Qad.drew | apply Qad.set_1 | refine Qad.far ?_ NB0_101.out _ | refine Qad.far ?_ NB0_112.out _) | exact HI0.out))
             (case side2 => repeat (first | (with_reducible first | exact HB.out | apply Qal | apply Qar | apply Qav | refine Qaw ?_ (Qad.ge HI0.out) | refine Qaw ?_ GE101.out | refine Qaw ?_ GE112.out) | exact HB.out))
             (case side3 => repeat (first | exact (Kd.R_reads' HO_3.out).2.2 | (with_reducible refine Kd.C_alloc ?_ _) | (with_reducible refine Kd.C_drewN ?_ _) | (with_reducible refine Kd.C_drew ?_)))
             (case side4 => exact (Kd.R_reads' HO_3.out).2.1)
             (case side5 => exact far_slice (Qad.own_ne HI0.out HO_3.out (by decide)))
             rintro e w21 ⟨v116, rfl, ho0, hi, hb, hk⟩
             refine ⟨_, rfl, ?_⟩
             have n0_ := Aside0.mk (Kd.R_mono (Kd.R_keep (Qad.apart (show Qad w0 _ g s0_0 x1001_2 from ki_) (by (refine QaT ?_); exact HO_3.out) (by decide)) hk (fun _ h => h.2)) (fun _ h => h.1))
             have n1_ := Aside0.mk (Kd.S_mono (Kd.S_told (Kd.S_oldK (Qad.apartS (show Qad w0 _ g s0_0 x1001_2 from ki_) (by (refine kdS_ ?_); exact HO_113000.out) (by decide)) hk) (Kd.R_base ho0)) (fun _ h_ => h_.1))
             have n2_ := Aside0.mk (Qai.blk hk (g' := gb101) (o := .cells #[.slice none 0 0] 25 (0, 0)) (by (refine kb_ ?_); exact BK101.out) NB101_0.out (by simp))
             have n3_ := Aside0.mk (Qai.blk hk (g' := gb112) (o := .cells #[u113000] 25 (0, 0)) (by (refine kb_ ?_); exact BK112.out) NB112_0.out (by simp))
             have n4_ := Aside0.mk (Kd.R_lower ho0 (QaC (w := w) (g := g) (row := none) (kk_)))
             have n5_ := Aside0.mk (Qai.trans (kk_) hk (.inl rfl))
             have n6_ := Aside0.mk (hb)
             have n7_ := Aside0.mk (hi)
             clear HO_3
             clear HO_113000
             clear BK101
             clear BK112
             clear HK
             clear HB
             clear HI0
             have HO_3 := n0_
             have HO_113000 := n1_
             have BK101 := n2_
             have BK112 := n3_
             have HO117 := n4_
             have HK := n5_
             have HB := n6_
             have HI0 := n7_
             clear n0_ n1_ n2_ n3_ n4_ n5_ n6_ n7_
             (try clear hb)
             (try clear hb2)
             (try clear hk)
             (try clear hi)
             (try clear ho0)
             obtain ⟨Ao23, co23, eo23⟩ := Kd.R_slice HO117.out
             (first | subst eo23 | (injection eo23 with f1_ f2_ f3_; have f4_ := f1_.symm; have f5_ := f3_.symm; clear f1_ f2_ f3_; subst f4_; subst f5_))
             refine hK.out _ _ ((Qaf BK112.out 0).trans rfl) (fun hHeld => ?_)
             clear hK K
             refine Qbo (a' := ?_) ?_ ?_
             rotate_left
             · show Act.put _ (some 32) _ = _
               simp only [Act.put, List.setIfInBounds_toArray, List.set_cons_zero, List.set_cons_succ, Qbb, Qbd]
               rfl
             refine one_ (i := 6) (N := some 33) #[true, true, true, true, true, true, true, false, false, false] rfl rfl (Qbw HT_.out (by kernel_rfl)) (by decide) (fun K hK => ?_)
             refine value_ (w1 := ?_) (v := ?_) (by rfl) rfl ?_ ?_
             rotate_left 2
             · go_simp
               constructor
               · rfl
               · rfl
             refine hK.out _ _ ((Qaf (Qb7 BK112.out _) 0).trans rfl) (fun hHeld => ?_)
             clear hK K
             refine Qbo (a' := ?_) ?_ ?_
             rotate_left
             · show Act.put _ (some 33) _ = _
               simp only [Act.put, List.setIfInBounds_toArray, List.set_cons_zero, List.set_cons_succ, Qbb, Qbd]
               rfl
             refine one_ (i := 7) (N := some 34) #[true, true, true, true, true, true, true, true, false, false] rfl rfl (Qbw HT_.out (by kernel_rfl)) (by decide) (fun K hK => ?_)
             refine Kd.S_append_step QaD w.heap.size (by rfl) (.tmp 28) (.tmp 33) 23 34 (.agg #[(.int .i64 0), (.int .i64 0), (.slice none 0 0)]) 40 rfl Try.underlying23 info34 rfl (by decide) (by omega) u113000 x113000_2 (⟨t113, t114, t115⟩ : Qae) [.int .i64 t113, .int .i64 t114, .slice Ao23 t115.length co23] (fun _ => True) (fun k_ => some k_ = (.slice Ao23 t115.length co23 : Value).ownBlock) rfl rfl ?aP (fun k_ hk_ => ((Kd.R_mono (ok' := fun k_ => ((fun _ => True)) k_ ∧ some k_ ≠ (u113000 : Value).ownBlock) (Kd.R_apart' (HO117.out) (Kd.S_typed HO_113000.out) (by decide)) (fun k_ hk => ⟨trivial, hk.2⟩))).1 k_ hk_.symm) ?aF ?aO (Below.refl _ _) ?aS ?aL ?_
             (case aP => exact k_impl_Method_mkM _ _ _ (⟨t113, t114, t115⟩ : Qae) (Kd.R_mono (Kd.R_tight rfl (Kd.R_mono (ok' := fun k_ => ((fun _ => True)) k_ ∧ some k_ ≠ (u113000 : Value).ownBlock) (Kd.R_apart' (HO117.out) (Kd.S_typed HO_113000.out) (by decide)) (fun k_ hk => ⟨trivial, hk.2⟩))) (fun _ h_ => h_)))
             (case aF => exact (fun _ _ => trivial))
             (case aO => exact (by (refine kdS_ ?_); exact Kd.S_mono HO_113000.out (fun k_ hk => ⟨trivial, fun e_ => hk.2 e_⟩)))
             (case aS => exact (QaC (w := w) (g := g) (row := none) (kk_)))
             (case aL => have := LMc18.out; omega)
             intro v120 w22 ho hb hg hat
             rw [← Ny119.out] at ho
             have n0_ := Aside0.mk (Kd.R_over' (by (refine QaT ?_); exact HO_3.out) (Kd.S_typed (by (refine kdS_ ?_); exact HO_113000.out)) (by decide) hg)
             have n1_ := Aside0.mk (QaU (g := gb101) (o := .cells #[.slice none 0 0] 25 (0, 0)) (by (refine kb_ ?_); exact BK101.out) hg (Kd.S_ne HO_113000.out BK101.out (by decide)))
             have n2_ := Aside0.mk (QaU (g := gb112) (o := .cells #[u113000] 25 (0, 0)) (by (refine kb_ ?_); exact BK112.out) hg (Kd.S_ne HO_113000.out BK112.out (by decide)))
             have n3_ := Aside0.mk (Qad.grown (ki_) hg (Qad.own_neS HI0.out HO_113000.out (by decide)))
             have n4_ := Aside0.mk (Qa5 (bx_) HL.out hb)
             have n5_ := Aside0.mk (Qai.trans (kk_) (Qai.of_grown hg g) (Kd.S_base2 HO_113000.out))
             have n6_ := Aside0.mk (ho)
             clear HO_3
             clear BK101
             clear BK112
             clear HI0
             clear HB
             clear HK
             clear HO_113000
             clear HO117
             have HO_3 := n0_
             have BK101 := n1_
             have BK112 := n2_
             have HI0 := n3_
             have HB := n4_
             have HK := n5_
             have HO121 := n6_
             clear n0_ n1_ n2_ n3_ n4_ n5_ n6_
             clear ho hb hg hat
             obtain ⟨Ao24, co24, eo24⟩ := Kd.S_slice HO121.out
             (first | subst eo24 | (injection eo24 with f1_ f2_ f3_; have f4_ := f1_.symm; have f5_ := f3_.symm; clear f1_ f2_ f3_; subst f4_; subst f5_))
             refine hK.out _ _ ((Qaf BK112.out 0).trans rfl) (fun hHeld => ?_)
             clear hK K
             refine Qbo (a' := ?_) ?_ ?_
             rotate_left
             · show Act.put _ (some 34) _ = _
               simp only [Act.put, List.setIfInBounds_toArray, List.set_cons_zero, List.set_cons_succ, Qbb, Qbd]
               rfl
             refine pu_ 8 (some 35) #[true, true, true, true, true, true, true, true, true, false] rfl rfl ?_
             refine last_ (i := 9) (N := none) #[true, true, true, true, true, true, true, true, true, true] rfl rfl (Qbw HT_.out (by kernel_rfl)) (by decide) (fun K hK => ?_)
             have hs25 : w22.cell? ⟨gb112, 0, none⟩ = some (u113000) := (Qaf BK112.out 0).trans rfl
             have hfs25 := Qaj BK112.out 0
             have hns25_0 := NB101_112.out
             have hms25_0 := NB112_101.out
             refine skip_ (w1 := ?_) (by rfl) rfl ?_ ?_
             rotate_left
             · go_simp
               rfl
             refine hK.out _ _ ?_
             clear hK K
             refine done_ (QbY HT_.out (by kernel_rfl)) ?_
             try go_wp2
             go_roundg k2
             case measure => have := HK1.out; have := HK2.out; omega
             case rel => exact ⟨(wrap64 (x6_2 + 1)), (t118), (y119), (.slice Ao24 y119.length co24), (by first | rfl | (simp; done) | (simp [*]; done)), H', ⟨by have := HK1.out; have := HK2.out; omega⟩, ⟨by (refine QaT ?_); exact Kd.R_mono (Kd.R_far (p := ⟨gb112, 0, none⟩) (Kd.R_types HO_3.out BK112.out (by decide)) (fun _ hk => hk.2) (.slice Ao24 y119.length co24)) (fun _ hk => trivial)⟩, ⟨by (refine kdS_ ?_); exact Kd.S_mono (Kd.S_far (p := ⟨gb112, 0, none⟩) (Kd.S_types HO121.out BK112.out (by decide)) (fun _ hk => hk.2) (.slice Ao24 y119.length co24)) (fun _ hk => trivial)⟩, ⟨by (refine kb_ ?_); refine Qbe ?_ NB101_112.out _; (refine kb_ ?_); exact BK101.out⟩, ⟨by (refine kb_ ?_); refine Qbc (cs := #[u113000]) ?_ 0 _ rfl; (refine kb_ ?_); exact BK112.out⟩, ⟨ki_⟩, ⟨kk_⟩, ⟨bx_⟩⟩
           · rw [if_neg c18] at H
             exact absurd H (by simp)
         · rw [if_neg c16] at H
           have c16b0 : decide (x6_2 < (x3_1.length : Int)) = false := decide_eq_false c16
           clear c16
           simp only [Option.some.injEq, Prod.mk.injEq] at H
           obtain ⟨rfl, rfl⟩ := H
           obtain ⟨Ao26, co26, eo26⟩ := Kd.R_slice HO_3.out
           subst eo26
           have hnb27 := NB112_101.out
           have hnc27 := NB101_112.out
           have hnb28 := NB112_0.out
           have hnc28 := NB0_112.out
           have hcz29_0 : wr.cell? ⟨gb112, 0, none⟩ = some (u113000) := (Qaf BK112.out 0).trans rfl
           have hfz29_0 := Qaj BK112.out 0
           obtain ⟨Ao30, co30, eo30⟩ := Kd.S_slice HO_113000.out
           subst eo30
           have hnb31 := NB101_0.out
           have hnc31 := NB0_101.out
           have hcz32_0 : wr.cell? ⟨gb101, 0, none⟩ = some (.slice none 0 0) := (Qaf BK101.out 0).trans rfl
           have hfz32_0 := Qaj BK101.out 0
           go_wp2
           refine bodyPost_ret (results_cell_row rfl _ _ gb101 25 #[.slice Ao30 x113000_2.length co30] (0, 0) _ rfl (by (refine kb_ ?_); refine Qbc (cs := #[.slice none 0 0]) ?_ 0 _ rfl; (refine kb_ ?_); exact BK101.out) Try.underlying25 rfl (by kernel_rfl)) rfl ?_
           exact ⟨_, by first | rfl | (simp [Qan, Qao] <;> rfl) | (simp [*, Qan, Qao] <;> rfl), by (refine kdS_ ?_); exact Kd.S_mono (Kd.S_far (p := ⟨gb101, 0, none⟩) (Kd.S_types HO_113000.out BK101.out (by decide)) (fun _ hk => hk.2) (.slice Ao30 x113000_2.length co30)) (fun _ hk => trivial), ki_, bx_, kk_⟩
end Go.Proofs.Ytabcijheemjplaa.G
