import Derived.Test.YtabcijheemjplaaK6ca9bb5a
import Derived.Test.YtabcijheemjplaaK17151cc0
import Derived.Test.YtabcijheemjplaaKce8f5f6f
namespace Go.Proofs.Ytabcijheemjplaa.G
open Go.RowKit Go.Proofs.YtabcijheemjplaaW.PrintWords Go.Proofs.YtabcijheemjplaaW.PrintLast Go.Proofs.YtabcijheemjplaaW.PrintMore
attribute [local go_sem] QaQ QaR Qa3 Qa4 QaJ QaK QaS QaT
set_option linter.unusedVariables false
set_option linter.unusedSimpArgs false
mutual
def Qat.l0 : Nat → List Int → Int → List (Qae) → Int → Int → List (Qac) → Option (List Int × Bool)
 | 0, _, _, _, _, _, _ => none
 | k + 1, x6, x7, x102000, x103000, x103001, x103002 => if x7 < (x103002.length : Int) then (if x6.length < 17592186044416 then (Qat.l0 k (x6 ++ [(-1)]) (wrap64 (x7 + 1)) x102000 x103000 x103001 x103002) else (none)) else (if (x103002.length : Int) = 0 then (some (x6, false)) else (if 0 < (x6.length : Int) then (Qat.l1 k (x6.set (0 : Int).toNat 0) (([0] : List Int)) x102000 x103000 x103001 x103002) else (none)))
def Qat.l1 : Nat → List Int → List Int → List (Qae) → Int → Int → List (Qac) → Option (List Int × Bool)
 | 0, _, _, _, _, _, _ => none
 | k + 1, x6, x8, x102000, x103000, x103001, x103002 => if (x8.length : Int) > 0 then (if 0 < (x8.length : Int) then ((some (([] : List Int) : List Int)).bind fun y114 => (if 1 ≤ (x8.length : Int) then ((some (x8.drop 1 : List Int)).bind fun y117 => (if y114.length + y117.length < 17592186044416 then (if 0 ≤ (rd x8 0) then (if (rd x8 0) < (x103002.length : Int) then (if (rd x8 0) < (x6.length : Int) then ((Qa7.f k x102000 ((Qah x103002 (rd x8 0)).f0) ((Qah x103002 (rd x8 0)).f1) (rd x6 (rd x8 0))).bind fun t126 => ((QbC.f ((Qah x103002 (rd x8 0)).f0) ((Qah x103002 (rd x8 0)).f1) (rd x8 0)).bind fun t128 => (Qat.l2 k x6 (y114 ++ y117) t126 t128 0 x102000 x103000 x103001 x103002))) else (none)) else (none)) else (none)) else (none))) else (none))) else (none)) else (some (x6, true))
def Qat.l2 : Nat → List Int → List Int → Int → List Int → Int → List (Qae) → Int → Int → List (Qac) → Option (List Int × Bool)
 | 0, _, _, _, _, _, _, _, _, _ => none
 | k + 1, x6, x8, x10, x11, x12, x102000, x103000, x103001, x103002 => if x12 < (x11.length : Int) then (if 0 ≤ x12 then (if x10 < 0 then (Qat.j3 k x6 x8 x10 x11 x12 (rd x11 x12) true x102000 x103000 x103001 x103002) else (if (rd x11 x12) ≥ (x103002.length : Int) then (Qat.j3 k x6 x8 x10 x11 x12 (rd x11 x12) true x102000 x103000 x103001 x103002) else (if 0 ≤ (rd x11 x12) then (if (rd x11 x12) < (x6.length : Int) then (if (rd x6 (rd x11 x12)) ≥ 0 then (Qat.j3 k x6 x8 x10 x11 x12 (rd x11 x12) ((rd x6 (rd x11 x12)) != x10) x102000 x103000 x103001 x103002) else (Qat.j3 k x6 x8 x10 x11 x12 (rd x11 x12) false x102000 x103000 x103001 x103002)) else (none)) else (none)))) else (none)) else (if x10 < 0 then (some (x6, false)) else (Qat.l1 k x6 x8 x102000 x103000 x103001 x103002))
def Qat.j3 : Nat → List Int → List Int → Int → List Int → Int → Int → Bool → List (Qae) → Int → Int → List (Qac) → Option (List Int × Bool)
 | 0, _, _, _, _, _, _, _, _, _, _, _ => none
 | k + 1, x6, x8, x10, x11, x12, x13, x94, x102000, x103000, x103001, x103002 => if x94 = true then (some (x6, false)) else (if 0 ≤ x13 then (if x13 < (x6.length : Int) then (if (rd x6 x13) < 0 then (if x8.length < 17592186044416 then (Qat.l2 k (x6.set (x13 : Int).toNat x10) (x8 ++ [x13]) x10 x11 (wrap64 (x12 + 1)) x102000 x103000 x103001 x103002) else (none)) else (Qat.l2 k x6 x8 x10 x11 (wrap64 (x12 + 1)) x102000 x103000 x103001 x103002)) else (none)) else (none))
end
def Qat.f (k : Nat) (l0_0 : List (Qae)) (a1_0 : Int) (a1_1 : Int) (l1_2 : List (Qac)) : Option (List Int × Bool) := Qat.l0 k (([] : List Int)) 0 l0_0 a1_0 a1_1 l1_2
theorem Qat.mono_l : ∀ k, (∀ y0 y1 y2 y3 y4 y5, LeO (Qat.l0 k y0 y1 y2 y3 y4 y5) (Qat.l0 (k + 1) y0 y1 y2 y3 y4 y5)) ∧ (∀ y0 y1 y2 y3 y4 y5, LeO (Qat.l1 k y0 y1 y2 y3 y4 y5) (Qat.l1 (k + 1) y0 y1 y2 y3 y4 y5)) ∧ (∀ y0 y1 y2 y3 y4 y5 y6 y7 y8, LeO (Qat.l2 k y0 y1 y2 y3 y4 y5 y6 y7 y8) (Qat.l2 (k + 1) y0 y1 y2 y3 y4 y5 y6 y7 y8)) ∧ (∀ y0 y1 y2 y3 y4 y5 y6 y7 y8 y9 y10, LeO (Qat.j3 k y0 y1 y2 y3 y4 y5 y6 y7 y8 y9 y10) (Qat.j3 (k + 1) y0 y1 y2 y3 y4 y5 y6 y7 y8 y9 y10))
 | 0 => ⟨fun _ _ _ _ _ _ r h => by simp [Qat.l0] at h, fun _ _ _ _ _ _ r h => by simp [Qat.l1] at h, fun _ _ _ _ _ _ _ _ _ r h => by simp [Qat.l2] at h, fun _ _ _ _ _ _ _ _ _ _ _ r h => by simp [Qat.j3] at h⟩
 | k + 1 => by
   obtain ⟨ih0, ih1, ih2, ih3⟩ := Qat.mono_l k
   refine ⟨?_, ?_, ?_, ?_⟩
   · intro y0 y1 y2 y3 y4 y5
     unfold Qat.l0
     repeat' first
     | (with_reducible exact ih0 _ _ _ _ _ _)
     | (with_reducible exact ih1 _ _ _ _ _ _)
     | (with_reducible exact ih2 _ _ _ _ _ _ _ _ _)
     | (with_reducible exact ih3 _ _ _ _ _ _ _ _ _ _ _)
     | (with_reducible exact Qa7.mono _ _ _ _ _)
     | (with_reducible exact LeO.refl _)
     | (with_reducible exact LeO.none _)
     | (with_reducible refine LeO.ite ?_ ?_)
     | (with_reducible refine LeO.bind ?_ (fun _ => ?_))
     | exact ih0 _ _ _ _ _ _
     | exact ih1 _ _ _ _ _ _
     | exact ih2 _ _ _ _ _ _ _ _ _
     | exact ih3 _ _ _ _ _ _ _ _ _ _ _
     | exact Qa7.mono _ _ _ _ _
     | exact LeO.none _
     | refine LeO.ite ?_ ?_
     | refine LeO.bind ?_ (fun _ => ?_)
   · intro y0 y1 y2 y3 y4 y5
     unfold Qat.l1
     repeat' first
     | (with_reducible exact ih0 _ _ _ _ _ _)
     | (with_reducible exact ih1 _ _ _ _ _ _)
     | (with_reducible exact ih2 _ _ _ _ _ _ _ _ _)
     | (with_reducible exact ih3 _ _ _ _ _ _ _ _ _ _ _)
     | (with_reducible exact Qa7.mono _ _ _ _ _)
     | (with_reducible exact LeO.refl _)
     | (with_reducible exact LeO.none _)
     | (with_reducible refine LeO.ite ?_ ?_)
     | (with_reducible refine LeO.bind ?_ (fun _ => ?_))
     | exact ih0 _ _ _ _ _ _
     | exact ih1 _ _ _ _ _ _
     | exact ih2 _ _ _ _ _ _ _ _ _
     | exact ih3 _ _ _ _ _ _ _ _ _ _ _
     | exact Qa7.mono _ _ _ _ _
     | exact LeO.none _
     | refine LeO.ite ?_ ?_
     | refine LeO.bind ?_ (fun _ => ?_)
   · intro y0 y1 y2 y3 y4 y5 y6 y7 y8
     unfold Qat.l2
     repeat' first
     | (with_reducible exact ih0 _ _ _ _ _ _)
     | (with_reducible exact ih1 _ _ _ _ _ _)
     | (with_reducible exact ih2 _ _ _ _ _ _ _ _ _)
     | (with_reducible exact ih3 _ _ _ _ _ _ _ _ _ _ _)
     | (with_reducible exact Qa7.mono _ _ _ _ _)
     | (with_reducible exact LeO.refl _)
     | (with_reducible exact LeO.none _)
     | (with_reducible refine LeO.ite ?_ ?_)
     | (with_reducible refine LeO.bind ?_ (fun _ => ?_))
     | exact ih0 _ _ _ _ _ _
     | exact ih1 _ _ _ _ _ _
     | exact ih2 _ _ _ _ _ _ _ _ _
     | exact ih3 _ _ _ _ _ _ _ _ _ _ _
     | exact Qa7.mono _ _ _ _ _
     | exact LeO.none _
     | refine LeO.ite ?_ ?_
     | refine LeO.bind ?_ (fun _ => ?_)
   · intro y0 y1 y2 y3 y4 y5 y6 y7 y8 y9 y10
     unfold Qat.j3
     repeat' first
     | (with_reducible exact ih0 _ _ _ _ _ _)
     | (with_reducible exact ih1 _ _ _ _ _ _)
     | (with_reducible exact ih2 _ _ _ _ _ _ _ _ _)
     | (with_reducible exact ih3 _ _ _ _ _ _ _ _ _ _ _)
     | (with_reducible exact Qa7.mono _ _ _ _ _)
     | (with_reducible exact LeO.refl _)
     | (with_reducible exact LeO.none _)
     | (with_reducible refine LeO.ite ?_ ?_)
     | (with_reducible refine LeO.bind ?_ (fun _ => ?_))
     | exact ih0 _ _ _ _ _ _
     | exact ih1 _ _ _ _ _ _
     | exact ih2 _ _ _ _ _ _ _ _ _
     | exact ih3 _ _ _ _ _ _ _ _ _ _ _
     | exact Qa7.mono _ _ _ _ _
     | exact LeO.none _
     | refine LeO.ite ?_ ?_
     | refine LeO.bind ?_ (fun _ => ?_)
theorem Qat.mono : ∀ a0 a1 a2 a3 k, LeO (Qat.f k a0 a1 a2 a3) (Qat.f (k + 1) a0 a1 a2 a3) := by
 intro a0 a1 a2 a3 k
 obtain ⟨ih0, ih1, ih2, ih3⟩ := Qat.mono_l k
 unfold Qat.f
 repeat' first
  | (with_reducible exact ih0 _ _ _ _ _ _)
  | (with_reducible exact ih1 _ _ _ _ _ _)
  | (with_reducible exact ih2 _ _ _ _ _ _ _ _ _)
  | (with_reducible exact ih3 _ _ _ _ _ _ _ _ _ _ _)
  | (with_reducible exact Qa7.mono _ _ _ _ _)
  | (with_reducible exact LeO.refl _)
  | (with_reducible exact LeO.none _)
  | (with_reducible refine LeO.ite ?_ ?_)
  | (with_reducible refine LeO.bind ?_ (fun _ => ?_))
  | exact ih0 _ _ _ _ _ _
  | exact ih1 _ _ _ _ _ _
  | exact ih2 _ _ _ _ _ _ _ _ _
  | exact ih3 _ _ _ _ _ _ _ _ _ _ _
  | exact Qa7.mono _ _ _ _ _
  | exact LeO.none _
  | refine LeO.ite ?_ ?_
  | refine LeO.bind ?_ (fun _ => ?_)
def Qat.T13 : Bool × List (List Nat × List Nat) := (true, [([], []), ([], []), ([1], [1]), ([], []), ([2, 3], [2, 3]), ([4], [4]), ([], []), ([], []), ([6, 7], [6, 7]), ([8], [8]), ([0, 5, 9], [0, 5, 9]), ([10, 10, 0, 1, 2, 3, 4, 5, 6, 7, 8, 9, 10], [10])])
def Qat.B13 : List Nat := [0, 0, 2, 0, 14, 30, 0, 0, 192, 448, 1023, 2047]
theorem Qat.tab13 : rtab .any (opsOf Try.f59 13) = Qat.T13 := by kernel_rfl
theorem Qat.bits13 : QbZ Qat.T13.2 Qat.B13 = true := by kernel_rfl
set_option maxHeartbeats 8000000 in
set_option maxRecDepth 100000 in
theorem Qat.calls (k : Nat) (A0_0 : Option Addr) (c0_0 : Nat) (l0_0 : List (Qae)) (a1_0 : Int) (a1_1 : Int) (A1_2 : Option Addr) (c1_2 : Nat) (l1_2 : List (Qac)) (r1 : List Int) (r2 : Bool) (w : World) (hr0_0 : Kd.C QaD w A0_0 l0_0.length l0_0) (hc0_0 : l0_0.length ≤ c0_0) (hr1_2 : Kd.C QaB w A1_2 l1_2.length l1_2) (hc1_2 : l1_2.length ≤ c1_2) (h : Qat.f k l0_0 a1_0 a1_1 l1_2 = some (r1, r2)) :
 Calls Try.prog 59 #[.agg #[.slice A0_0 l0_0.length c0_0], .agg #[.int .i64 a1_0, .int .i64 a1_1, .slice A1_2 l1_2.length c1_2]] w fun e w' => ∃ v0_ : Value, e = .returned (.tuple #[v0_, .bool r2]) ∧ Kd.R (Kd.int .i64) 3 w' w.heap.size (fun _ => True) v0_ r1 ∧ Below w.heap.size w w' := by
 have hu25 := Try.underlying25
 have hu34 := Try.underlying34
 have hu83 := Try.underlying83
 have HR0_0 := Aside0.mk hr0_0
 have HC0_0 := Aside0.mk hc0_0
 clear hr0_0 hc0_0
 have HR1_2 := Aside0.mk hr1_2
 have HC1_2 := Aside0.mk hc1_2
 clear hr1_2 hc1_2
 have HB := Aside0.mk (Below.refl w.heap.size w)
 have H : (Qat.l0 k (([] : List Int)) 0 l0_0 a1_0 a1_1 l1_2) = some (r1, r2) := h
 clear h
 obtain ⟨y103, hy103⟩ : ∃ y_ : List Int, y_ = (([] : List Int)) := ⟨_, rfl⟩
 replace H : (Qat.l0 k y103 0 l0_0 a1_0 a1_1 l1_2) = some (r1, r2) := by first | (rw [hy103]; with_reducible exact H) | (have H2_ := (Option.bind_some _ _).symm.trans H; rw [hy103]; with_reducible exact H2_) | (have H2_ := (Option.bind_some _ _).symm.trans H; with_reducible exact H2_) | with_reducible exact H | (rw [hy103]; exact H) | exact H
 have Ny103 := Aside0.mk hy103
 clear hy103
 have H' := Aside0.mk H
 clear H
 go_enter Try.func59, Try.ntmps59
 go_wp2_with (first | ((with_reducible refine QaH (N := 2) rfl ?_); (try (refine Qa8 (by rfl) ?_; dsimp only)); refine QaN ?hg (N := 2) ?hd (cs := #[.slice A0_0 l0_0.length c0_0]) (t := 25) ?hr ?_; (case hd => rfl); (case hg => rfl); (case hr => first | (go_simp; done) | (go_simp; rfl)); intro gb101 hg w3 hbox hb; have n0_ := Aside0.mk (Qap (bw_) hb); have n1_ := Aside0.mk (hbox); have n2_ := Aside0.mk ((gs_ hg bw_ : w.heap.size ≤ gb101)); have n3_ := Aside0.mk ((gs_ hg bw_ : w.heap.size ≤ gb101)); clear HB; have HB := n0_; have BK101 := n1_; have GW101 := n2_; have GE101 := n3_; clear n0_ n1_ n2_ n3_; clear hb hbox hg) | ((with_reducible refine QaH (N := 3) rfl ?_); (try (refine Qa8 (by rfl) ?_; dsimp only)); refine QaN ?hg (N := 3) ?hd (cs := #[.int .i64 a1_0, .int .i64 a1_1, .slice A1_2 l1_2.length c1_2]) (t := 34) ?hr ?_; (case hd => rfl); (case hg => rfl); (case hr => first | (go_simp; done) | (go_simp; rfl)); intro gb102 hg w4 hbox hb; have n0_ := Aside0.mk (bb_ BK101 hb); have n1_ := Aside0.mk (Qap (bw_) hb); have n2_ := Aside0.mk (hbox); have n3_ := Aside0.mk ((gs_ hg bw_ : w.heap.size ≤ gb102)); have n4_ := Aside0.mk ((gs_ hg bw_ : w.heap.size ≤ gb102)); have n5_ := Aside0.mk ((nl_ hg BK101 : gb101 ≠ gb102)); have n6_ := Aside0.mk ((ng_ hg BK101 : gb102 ≠ gb101)); clear BK101; clear HB; have BK101 := n0_; have HB := n1_; have BK102 := n2_; have GW102 := n3_; have GE102 := n4_; have NB101_102 := n5_; have NB102_101 := n6_; clear n0_ n1_ n2_ n3_ n4_ n5_ n6_; clear hb hbox hg) | ((with_reducible refine QaH (N := 14) rfl ?_); (try (refine Qa8 (by rfl) ?_; dsimp only)); refine Kd.R_lit (Kd.int .i64) _ 3 ?hg (N := 14) ?hd (xs := ([] : List Int)) (inner := []) (ok := fun _ => True) (okp := fun _ => True) ?hr ?hp (fun _ hk => hk) trivial (Below.refl _ _) (Nat.le_refl _) (by simp) ?_; (case hd => rfl); (case hg => rfl); (case hr => first | (go_simp; done) | (go_simp; rfl)); (case hp => exact (Qa9.none _ _)); intro v104 w5 ho6 hb hg_ hnew_; clear hg_ hnew_; (first | rw [← Ny103.out] at ho6 | (simp only [Int.reduceToNat] at ho6; rw [← Ny103.out] at ho6)); have n0_ := Aside0.mk (Kd.R_lower ho6 (QaY (bw_))); have n1_ := Aside0.mk (bb_ BK101 hb); have n2_ := Aside0.mk (bb_ BK102 hb); have n3_ := Aside0.mk (Qap (bw_) hb); clear BK101; clear BK102; clear HB; have HO105 := n0_; have BK101 := n1_; have BK102 := n2_; have HB := n3_; clear n0_ n1_ n2_ n3_; clear hb ho6))
 go_loopg [6, 7] k (fun kq v6 v7 w' => ∃ (x6_1 : List Int) (x7_1 : Int), v7 = .int .i64 x7_1 ∧ Aside0 (Qat.l0 kq x6_1 x7_1 l0_0 a1_0 a1_1 l1_2 = some (r1, r2)) ∧ Aside0 (kq ≤ k) ∧ Aside0 (Kd.R (Kd.int .i64) 3 w' w.heap.size (fun _ => True) v6 x6_1) ∧ Aside0 (w'.heap[gb101]? = some (.cells #[(.slice A0_0 l0_0.length c0_0)] 25 (0, 0))) ∧ Aside0 (w'.heap[gb102]? = some (.cells #[.int .i64 a1_0, .int .i64 a1_1, (.slice A1_2 l1_2.length c1_2)] 34 (0, 0))) ∧ Aside0 (Below w.heap.size w w'))
 case atStart => exact ⟨(y103), (0), (by first | rfl | (simp; done) | (simp [*]; done)), H', ⟨Nat.le_refl _⟩, ⟨by (refine QaP ?_); exact HO105.out⟩, ⟨by (refine kb_ ?_); exact BK101.out⟩, ⟨by (refine kb_ ?_); exact BK102.out⟩, ⟨bw_⟩⟩
 case round =>
  clear H'
  try clear c1
  try clear p2
  try clear c5
  obtain ⟨x6_1, x7_1, rfl, HA, HK1, HO_6, BK101, BK102, HB⟩ := hrel
  cases gk with
  | zero => exact absurd HA.out (by simp [Qat.l0])
  | succ k1 =>
    have H := HA.out
    clear HA
    simp only [Qat.l0] at H
    by_cases c7 : x7_1 < (l1_2.length : Int)
    · rw [if_pos c7] at H
      have c7b0 : decide (x7_1 < (l1_2.length : Int)) = true := decide_eq_true c7
      clear c7
      by_cases c8 : x6_1.length < 17592186044416
      · rw [if_pos c8] at H
        have LMc8 := Aside0.mk c8
        clear c8
        obtain ⟨y106, hy106⟩ : ∃ y_ : List Int, y_ = (x6_1 ++ [(-1)]) := ⟨_, rfl⟩
        replace H : (Qat.l0 k1 y106 (wrap64 (x7_1 + 1)) l0_0 a1_0 a1_1 l1_2) = some (r1, r2) := by first | (rw [hy106]; with_reducible exact H) | (have H2_ := (Option.bind_some _ _).symm.trans H; rw [hy106]; with_reducible exact H2_) | (have H2_ := (Option.bind_some _ _).symm.trans H; with_reducible exact H2_) | with_reducible exact H | (rw [hy106]; exact H) | exact H
        have Ny106 := Aside0.mk hy106
        clear hy106
        have H' := Aside0.mk H
        clear H
        have hnb9 := NB102_101.out
        have hnc9 := NB101_102.out
        have hcz10_0 : wr.cell? ⟨gb102, 0, none⟩ = some (.int .i64 a1_0) := (Qaf BK102.out 0).trans rfl
        have hcz10_1 : wr.cell? ⟨gb102, 1, none⟩ = some (.int .i64 a1_1) := (Qaf BK102.out 1).trans rfl
        have hcz10_2 : wr.cell? ⟨gb102, 2, none⟩ = some (.slice A1_2 l1_2.length c1_2) := (Qaf BK102.out 2).trans rfl
        have hfz10_0 := Qaj BK102.out 0
        have hfz10_1 := Qaj BK102.out 1
        have hfz10_2 := Qaj BK102.out 2
        go_wp2_with (first | ((with_reducible refine QaW (b := .append) (xs := #[.tmp 22, .tmp 23]) rfl ?_); (try (refine Qa8 (by rfl) ?_; dsimp only)); at_builtin; refine Kd.R_append (Kd.int .i64) (w0 := w) w.heap.size rfl (.tmp 22) (.tmp 23) 28 3 (.int .i64 0) 8 rfl Try.underlying28 info3 rfl (by decide) (by omega) u6 x6_1 (-1) [.int .i64 (-1)] (fun _ => True) (fun _ => False) rfl rfl ?aP (fun _ hk => hk.elim) ?aF ?aO ?aB ?aS ?aL ?_; (case aP => exact rfl); (case aB => exact (bw_)); (case aF => exact (fun _ _ => trivial)); (case aO => exact (by (refine QaP ?_); exact HO_6.out)); (case aS => exact (QaY (bw_))); (case aL => have := LMc8.out; omega); intro v107 w11 ho hb hg hat; rw [← Ny106.out] at ho; have n0_ := Aside0.mk (QaU (g := gb101) (o := .cells #[.slice A0_0 l0_0.length c0_0] 25 (0, 0)) (by (refine kb_ ?_); exact BK101.out) hg (Kd.R_ne HO_6.out BK101.out (by decide))); have n1_ := Aside0.mk (QaU (g := gb102) (o := .cells #[.int .i64 a1_0, .int .i64 a1_1, .slice A1_2 l1_2.length c1_2] 34 (0, 0)) (by (refine kb_ ?_); exact BK102.out) hg (Kd.R_ne HO_6.out BK102.out (by decide))); have n2_ := Aside0.mk (hb); have n3_ := Aside0.mk (ho); clear BK101; clear BK102; clear HB; clear HO_6; have BK101 := n0_; have BK102 := n1_; have HB := n2_; have HO108 := n3_; clear n0_ n1_ n2_ n3_; clear ho hb hg hat))
        go_roundg k1
        case measure => have := HK1.out; omega
        case rel => exact ⟨(y106), (wrap64 (x7_1 + 1)), (by first | rfl | (simp; done) | (simp [*]; done)), H', ⟨by have := HK1.out; omega⟩, ⟨by (refine QaP ?_); exact HO108.out⟩, ⟨by (refine kb_ ?_); exact BK101.out⟩, ⟨by (refine kb_ ?_); exact BK102.out⟩, ⟨bw_⟩⟩
      · rw [if_neg c8] at H
        exact absurd H (by simp)
    · rw [if_neg c7] at H
      have c7b0 : decide (x7_1 < (l1_2.length : Int)) = false := decide_eq_false c7
      clear c7
      obtain ⟨y109, hy109⟩ : ∃ y_ : List Int, y_ = (([0] : List Int)) := ⟨_, rfl⟩
      replace H : (if (l1_2.length : Int) = 0 then (some (x6_1, false)) else (if 0 < (x6_1.length : Int) then (Qat.l1 k1 (x6_1.set (0 : Int).toNat 0) y109 l0_0 a1_0 a1_1 l1_2) else (none))) = some (r1, r2) := by first | (rw [hy109]; with_reducible exact H) | (have H2_ := (Option.bind_some _ _).symm.trans H; rw [hy109]; with_reducible exact H2_) | (have H2_ := (Option.bind_some _ _).symm.trans H; with_reducible exact H2_) | with_reducible exact H | (rw [hy109]; exact H) | exact H
      have Ny109 := Aside0.mk hy109
      clear hy109
      by_cases c12 : (l1_2.length : Int) = 0
      · rw [if_pos c12] at H
        have c12b0 : ((l1_2.length : Int) == 0) = true := beq_iff_eq.mpr c12
        have c12b1 : ((l1_2.length : Int) != 0) = false := bne_eq_false_iff_eq.mpr c12
        clear c12
        simp only [Option.some.injEq, Prod.mk.injEq] at H
        obtain ⟨rfl, rfl⟩ := H
        have hnb13 := NB102_101.out
        have hnc13 := NB101_102.out
        have hcz14_0 : wr.cell? ⟨gb102, 0, none⟩ = some (.int .i64 a1_0) := (Qaf BK102.out 0).trans rfl
        have hcz14_1 : wr.cell? ⟨gb102, 1, none⟩ = some (.int .i64 a1_1) := (Qaf BK102.out 1).trans rfl
        have hcz14_2 : wr.cell? ⟨gb102, 2, none⟩ = some (.slice A1_2 l1_2.length c1_2) := (Qaf BK102.out 2).trans rfl
        have hfz14_0 := Qaj BK102.out 0
        have hfz14_1 := Qaj BK102.out 1
        have hfz14_2 := Qaj BK102.out 2
        go_wp2_with (first | ((with_reducible refine QaH (N := 25) rfl ?_); (try (refine Qa8 (by rfl) ?_; dsimp only)); refine Kd.R_lit (Kd.int .i64) _ 3 ?hg (N := 25) ?hd (xs := ([0] : List Int)) (inner := [.int .i64 0]) (ok := fun _ => True) (okp := fun _ => True) ?hr ?hp (fun _ hk => hk) trivial (Below.refl _ _) (Nat.le_refl _) (by simp) ?_; (case hd => rfl); (case hg => rfl); (case hr => first | (go_simp; done) | (go_simp; rfl)); (case hp => exact (Qa9.one (show Kd.M (Kd.int .i64) _ _ _ 0 [.int .i64 0] from rfl) (Qa9.none _ _))); intro v110 w15 ho16 hb hg_ hnew_; clear hg_ hnew_; (first | rw [← Ny109.out] at ho16 | (simp only [Int.reduceToNat] at ho16; rw [← Ny109.out] at ho16)); have n0_ := Aside0.mk (Kd.R_elder' (by (refine QaP ?_); exact HO_6.out) (Kd.R_base ho16) hb); have n1_ := Aside0.mk (Kd.R_lower (Kd.R_new' ho16 (Kd.R_lt (by (refine QaP ?_); exact HO_6.out))) (QaY (bw_))); have n2_ := Aside0.mk (bb_ BK101 hb); have n3_ := Aside0.mk (bb_ BK102 hb); have n4_ := Aside0.mk (Qap (bw_) hb); clear HO_6; clear BK101; clear BK102; clear HB; have HO_6 := n0_; have HO111 := n1_; have BK101 := n2_; have BK102 := n3_; have HB := n4_; clear n0_ n1_ n2_ n3_ n4_; clear hb ho16; obtain ⟨hcz17_0, hcz17_1, hcz17_2, hfz17_0, hfz17_1, hfz17_2⟩ := Qb_ BK102.out))
        go_ret2
        exact ⟨_, by first | rfl | (simp [Qan, Qao] <;> rfl) | (simp [*, Qan, Qao] <;> rfl), by (refine QaP ?_); exact Kd.R_mono HO_6.out (fun _ hk => trivial), bw_⟩
      · rw [if_neg c12] at H
        have c12b0 : ((l1_2.length : Int) == 0) = false := beq_eq_false_iff_ne.mpr c12
        have c12b1 : ((l1_2.length : Int) != 0) = true := bne_iff_ne.mpr c12
        have c12b2 : ¬ (l1_2 = []) := fun h_ => c12 (by rw [h_]; rfl)
        by_cases c18 : 0 < (x6_1.length : Int)
        · rw [if_pos c18] at H
          have c18b0 : decide (0 < (x6_1.length : Int)) = true := decide_eq_true c18
          have c18b1 : decide (0 < x6_1.length) = true := decide_eq_true (by omega)
          clear c18
          obtain ⟨y112, hy112⟩ : ∃ y_ : List Int, y_ = (x6_1.set (0 : Int).toNat 0) := ⟨_, rfl⟩
          replace H : (Qat.l1 k1 y112 y109 l0_0 a1_0 a1_1 l1_2) = some (r1, r2) := by first | (rw [hy112]; with_reducible exact H) | (have H2_ := (Option.bind_some _ _).symm.trans H; rw [hy112]; with_reducible exact H2_) | (have H2_ := (Option.bind_some _ _).symm.trans H; with_reducible exact H2_) | with_reducible exact H | (rw [hy112]; exact H) | exact H
          have Ny112 := Aside0.mk hy112
          clear hy112
          have H' := Aside0.mk H
          clear H
          have hnb20 := NB102_101.out
          have hnc20 := NB101_102.out
          have hcz21_0 : wr.cell? ⟨gb102, 0, none⟩ = some (.int .i64 a1_0) := (Qaf BK102.out 0).trans rfl
          have hcz21_1 : wr.cell? ⟨gb102, 1, none⟩ = some (.int .i64 a1_1) := (Qaf BK102.out 1).trans rfl
          have hcz21_2 : wr.cell? ⟨gb102, 2, none⟩ = some (.slice A1_2 l1_2.length c1_2) := (Qaf BK102.out 2).trans rfl
          have hfz21_0 := Qaj BK102.out 0
          have hfz21_1 := Qaj BK102.out 1
          have hfz21_2 := Qaj BK102.out 2
          go_wp2_with (first | ((with_reducible refine QaH (N := 25) rfl ?_); (try (refine Qa8 (by rfl) ?_; dsimp only)); refine Kd.R_lit (Kd.int .i64) _ 3 ?hg (N := 25) ?hd (xs := ([0] : List Int)) (inner := [.int .i64 0]) (ok := fun _ => True) (okp := fun _ => True) ?hr ?hp (fun _ hk => hk) trivial (Below.refl _ _) (Nat.le_refl _) (by simp) ?_; (case hd => rfl); (case hg => rfl); (case hr => first | (go_simp; done) | (go_simp; rfl)); (case hp => exact (Qa9.one (show Kd.M (Kd.int .i64) _ _ _ 0 [.int .i64 0] from rfl) (Qa9.none _ _))); intro v110 w22 ho23 hb hg_ hnew_; clear hg_ hnew_; (first | rw [← Ny109.out] at ho23 | (simp only [Int.reduceToNat] at ho23; rw [← Ny109.out] at ho23)); have n0_ := Aside0.mk (Kd.R_elder' (by (refine QaP ?_); exact HO_6.out) (Kd.R_base ho23) hb); have n1_ := Aside0.mk (Kd.R_lower (Kd.R_new' ho23 (Kd.R_lt (by (refine QaP ?_); exact HO_6.out))) (QaY (bw_))); have n2_ := Aside0.mk (bb_ BK101 hb); have n3_ := Aside0.mk (bb_ BK102 hb); have n4_ := Aside0.mk (Qap (bw_) hb); clear HO_6; clear BK101; clear BK102; clear HB; have HO_6 := n0_; have HO111 := n1_; have BK101 := n2_; have BK102 := n3_; have HB := n4_; clear n0_ n1_ n2_ n3_ n4_; clear hb ho23; obtain ⟨hcz24_0, hcz24_1, hcz24_2, hfz24_0, hfz24_1, hfz24_2⟩ := Qb_ BK102.out; have p19 : 0 ≤ (0 : Int) := (by omega); have q19 : (0 : Int) < ((x6_1.length : Int) : Int) := of_decide_eq_true (by first | (with_reducible assumption) | assumption); have qi19 : (0 < x6_1.length) = True := eq_true (by omega); obtain ⟨go19, co19, eo19, gb19, gl19, cl19, HG19⟩ := Kd.R_form HO_6.out (by omega); (first | cases eo19 | (injection eo19 with ea_ en_ ec_; (first | subst ea_ | (injection ea_ with ea_; subst ea_)); subst ec_; clear en_)); have GB19 := Aside0.mk gb19; have GG19 := Aside0.mk HG19; clear gb19 gl19 HG19; obtain ⟨hx19_0, hf19_0⟩ := Kd.R_celln 0 HO_6.out (0 : Int) p19 q19; (try rw [show ((0 : Int)).toNat = 0 from rfl] at hx19_0); (try simp only [Nat.reduceMul, Nat.zero_mul, Nat.zero_add, Nat.reduceAdd] at hx19_0); (try rw [show ((0 : Int)).toNat = 0 from rfl] at hf19_0); (try simp only [Nat.reduceMul, Nat.zero_mul, Nat.zero_add, Nat.reduceAdd] at hf19_0); replace p19 := eq_true p19; replace q19 := eq_true q19; have n_ := Aside0.mk (Kd.R_mono (ok' := (fun k_ => some k_ ≠ (v110 : Value).ownBlock)) HO_6.out (fun k_ hk => hk.2)); clear HO_6; have HO_6 := n_; clear n_; obtain ⟨hy25_, hz25_⟩ := Kd.R_celln 0 HO_6.out (0 : Int) (by omega) (of_decide_eq_true (by first | (with_reducible assumption) | assumption)); (try simp only [Int.reduceToNat, Int.toNat_zero, Int.toNat_ofNat, Nat.reduceMul, Nat.zero_mul, Nat.zero_add] at hy25_ hz25_); (try rw [show ((0 : Int)).toNat = 0 from rfl] at hy25_); (try rw [show ((0 : Int)).toNat = 0 from rfl] at hz25_); have HP25 := Kd.R_putg HO_6.out (0 : Int) 0) | ((with_reducible refine Qcb (t := 3) (p := 32) rfl ?_); refine Qb3 (t := 3) (p := 32) (v := ?vo_w26) (w1 := (w22.setCell ⟨go19, (0 : Int).toNat, none⟩ (.int .i64 0))) ?hg ?ho ?hn ?hr ?_; (case ho => rfl); (case hg => rfl); (case hn => rfl); (case hr => first | (go_simp; done) | (go_simp; rfl)); intro w26 hw; have hg : w22.grownBy w26 (some go19) := (by rw [hw]; exact HP25.2); have hp_ : Kd.R (Kd.int .i64) 3 w26 w.heap.size (fun k_ => some k_ ≠ (v110 : Value).ownBlock) (.slice (some ⟨go19, 0, none⟩) x6_1.length co19) y112 := (by rw [hw, Ny112.out]; exact HP25.1); clear HP25; have n0_ := Aside0.mk (hp_); have n1_ := Aside0.mk (QaU (g := gb101) (o := .cells #[.slice A0_0 l0_0.length c0_0] 25 (0, 0)) (by (refine kb_ ?_); exact BK101.out) hg (Kd.R_ne HO_6.out BK101.out (by decide))); have n2_ := Aside0.mk (QaU (g := gb102) (o := .cells #[.int .i64 a1_0, .int .i64 a1_1, .slice A1_2 l1_2.length c1_2] 34 (0, 0)) (by (refine kb_ ?_); exact BK102.out) hg (Kd.R_ne HO_6.out BK102.out (by decide))); have n3_ := Aside0.mk (Kd.R_after (v := (.slice (some ⟨go19, 0, none⟩) x6_1.length co19)) (v1 := (.slice (some ⟨go19, 0, none⟩) x6_1.length co19)) (ok := (fun _ => True)) (by (refine QaP ?_); exact HO111.out) hg (.inl rfl)); have n4_ := Aside0.mk ((by rw [hw]; exact Qaw (HB.out) GB19.out : Below w.heap.size w w26)); clear HO_6; clear BK101; clear BK102; clear HO111; clear HB; have HO_6 := n0_; have BK101 := n1_; have BK102 := n2_; have HO111 := n3_; have HB := n4_; clear n0_ n1_ n2_ n3_ n4_; clear hg hw hp_))
          go_loopg [8] k1 (fun kq v8 w' => ∃ (x6_2 : List Int) (x8_2 : List Int), Aside0 (Qat.l1 kq x6_2 x8_2 l0_0 a1_0 a1_1 l1_2 = some (r1, r2)) ∧ Aside0 (kq ≤ k1) ∧ Aside0 (Kd.R (Kd.int .i64) 3 w' w.heap.size (fun k_ => some k_ ≠ (v8 : Value).ownBlock) (.slice (some ⟨go19, 0, none⟩) x6_1.length co19) x6_2) ∧ Aside0 (Kd.R (Kd.int .i64) 3 w' w.heap.size (fun k_ => some k_ ≠ ((.slice (some ⟨go19, 0, none⟩) x6_1.length co19) : Value).ownBlock) v8 x8_2) ∧ Aside0 (w'.heap[gb101]? = some (.cells #[(.slice A0_0 l0_0.length c0_0)] 25 (0, 0))) ∧ Aside0 (w'.heap[gb102]? = some (.cells #[.int .i64 a1_0, .int .i64 a1_1, (.slice A1_2 l1_2.length c1_2)] 34 (0, 0))) ∧ Aside0 (Below w.heap.size w w'))
          case atStart => exact ⟨(y112), (y109), H', ⟨Nat.le_refl _⟩, ⟨by (refine QaP ?_); exact HO_6.out⟩, ⟨by (refine QaP ?_); exact Kd.R_mono HO111.out (fun _ hk => hk.2)⟩, ⟨by (refine kb_ ?_); exact BK101.out⟩, ⟨by (refine kb_ ?_); exact BK102.out⟩, ⟨bw_⟩⟩
          case round =>
           clear H'
           try clear c1
           try clear p1
           try clear q1
           try clear hx1
           try clear qi1
           try clear c2
           try clear p2
           try clear c5
           try clear p6
           try clear c7
           try clear c7b0
           try clear c8
           try clear c9
           try clear c12
           try clear c12b0
           try clear c12b1
           try clear c12b2
           try clear c13
           try clear c18
           try clear c18b0
           try clear c18b1
           try clear p19
           try clear q19
           try clear hx19
           try clear qi19
           try clear hf19
           try clear c20
           try clear hcz10_0
           try clear hcz10_1
           try clear hcz10_2
           try clear hcz14_0
           try clear hcz14_1
           try clear hcz14_2
           try clear hcz17_0
           try clear hcz17_1
           try clear hcz17_2
           try clear hcz21_0
           try clear hcz21_1
           try clear hcz21_2
           try clear hcz24_0
           try clear hcz24_1
           try clear hcz24_2
           try clear hfz10_0
           try clear hfz10_1
           try clear hfz10_2
           try clear hfz14_0
           try clear hfz14_1
           try clear hfz14_2
           try clear hfz17_0
           try clear hfz17_1
           try clear hfz17_2
           try clear hfz21_0
           try clear hfz21_1
           try clear hfz21_2
           try clear hfz24_0
           try clear hfz24_1
           try clear hfz24_2
           try clear hx19_0
           try clear p19
           try clear p2
           try clear q19
           obtain ⟨x6_2, x8_2, HA, HK2, HO_6, HO_8, BK101, BK102, HB⟩ := hrel
           have hl6_2 := (Kd.R_reads' HO_6.out).1
           rw [hl6_2] at HO_6
           (try simp only [hl6_2])
           (try simp only [hl6_2] at BK101)
           (try simp only [hl6_2] at BK102)
           (try simp only [hl6_2] at HO_8)
           cases gk with
           | zero => exact absurd HA.out (by simp [Qat.l1])
           | succ k2 =>
             have H := HA.out
             clear HA
             simp only [Qat.l1] at H
             by_cases c27 : (x8_2.length : Int) > 0
             · rw [if_pos c27] at H
               have c27b0 : decide (0 < (x8_2.length : Int)) = true := decide_eq_true c27
               have c27b1 : decide (0 < x8_2.length) = true := decide_eq_true (by omega)
               clear c27
               by_cases c28 : 0 < (x8_2.length : Int)
               · rw [if_pos c28] at H
                 have c28b0 : decide (0 < (x8_2.length : Int)) = true := decide_eq_true c28
                 have c28b1 : decide (0 < x8_2.length) = true := decide_eq_true (by omega)
                 clear c28
                 obtain ⟨y114, hy114⟩ : ∃ y_ : List Int, y_ = (([] : List Int)) := ⟨_, rfl⟩
                 replace H : (if 1 ≤ (x8_2.length : Int) then ((some (x8_2.drop 1 : List Int)).bind fun y117 => (if y114.length + y117.length < 17592186044416 then (if 0 ≤ (rd x8_2 0) then (if (rd x8_2 0) < (l1_2.length : Int) then (if (rd x8_2 0) < (x6_2.length : Int) then ((Qa7.f k2 l0_0 ((Qah l1_2 (rd x8_2 0)).f0) ((Qah l1_2 (rd x8_2 0)).f1) (rd x6_2 (rd x8_2 0))).bind fun t126 => ((QbC.f ((Qah l1_2 (rd x8_2 0)).f0) ((Qah l1_2 (rd x8_2 0)).f1) (rd x8_2 0)).bind fun t128 => (Qat.l2 k2 x6_2 (y114 ++ y117) t126 t128 0 l0_0 a1_0 a1_1 l1_2))) else (none)) else (none)) else (none)) else (none))) else (none)) = some (r1, r2) := by first | (rw [hy114]; with_reducible exact H) | (have H2_ := (Option.bind_some _ _).symm.trans H; rw [hy114]; with_reducible exact H2_) | (have H2_ := (Option.bind_some _ _).symm.trans H; with_reducible exact H2_) | with_reducible exact H | (rw [hy114]; exact H) | exact H
                 have Ny114 := Aside0.mk hy114
                 clear hy114
                 by_cases c29 : 1 ≤ (x8_2.length : Int)
                 · rw [if_pos c29] at H
                   have c29b0 := eq_true c29
                   have c29b1 : decide (1 ≤ (x8_2.length : Int)) = true := decide_eq_true c29
                   clear c29
                   obtain ⟨y117, hy117⟩ : ∃ y_ : List Int, y_ = (x8_2.drop 1) := ⟨_, rfl⟩
                   replace H : (if y114.length + y117.length < 17592186044416 then (if 0 ≤ (rd x8_2 0) then (if (rd x8_2 0) < (l1_2.length : Int) then (if (rd x8_2 0) < (x6_2.length : Int) then ((Qa7.f k2 l0_0 ((Qah l1_2 (rd x8_2 0)).f0) ((Qah l1_2 (rd x8_2 0)).f1) (rd x6_2 (rd x8_2 0))).bind fun t126 => ((QbC.f ((Qah l1_2 (rd x8_2 0)).f0) ((Qah l1_2 (rd x8_2 0)).f1) (rd x8_2 0)).bind fun t128 => (Qat.l2 k2 x6_2 (y114 ++ y117) t126 t128 0 l0_0 a1_0 a1_1 l1_2))) else (none)) else (none)) else (none)) else (none)) = some (r1, r2) := by first | (rw [hy117]; with_reducible exact H) | (have H2_ := (Option.bind_some _ _).symm.trans H; rw [hy117]; with_reducible exact H2_) | (have H2_ := (Option.bind_some _ _).symm.trans H; with_reducible exact H2_) | with_reducible exact H | (rw [hy117]; exact H) | exact H
                   have Ny117 := Aside0.mk hy117
                   clear hy117
                   by_cases c30 : y114.length + y117.length < 17592186044416
                   · rw [if_pos c30] at H
                     have LMc30 := Aside0.mk c30
                     clear c30
                     obtain ⟨y121, hy121⟩ : ∃ y_ : List Int, y_ = (y114 ++ y117) := ⟨_, rfl⟩
                     replace H : (if 0 ≤ (rd x8_2 0) then (if (rd x8_2 0) < (l1_2.length : Int) then (if (rd x8_2 0) < (x6_2.length : Int) then ((Qa7.f k2 l0_0 ((Qah l1_2 (rd x8_2 0)).f0) ((Qah l1_2 (rd x8_2 0)).f1) (rd x6_2 (rd x8_2 0))).bind fun t126 => ((QbC.f ((Qah l1_2 (rd x8_2 0)).f0) ((Qah l1_2 (rd x8_2 0)).f1) (rd x8_2 0)).bind fun t128 => (Qat.l2 k2 x6_2 y121 t126 t128 0 l0_0 a1_0 a1_1 l1_2))) else (none)) else (none)) else (none)) = some (r1, r2) := by first | (rw [hy121]; with_reducible exact H) | (have H2_ := (Option.bind_some _ _).symm.trans H; rw [hy121]; with_reducible exact H2_) | (have H2_ := (Option.bind_some _ _).symm.trans H; with_reducible exact H2_) | with_reducible exact H | (rw [hy121]; exact H) | exact H
                     have Ny121 := Aside0.mk hy121
                     clear hy121
                     by_cases c31 : 0 ≤ (rd x8_2 0)
                     · rw [if_pos c31] at H
                       have c31b0 : decide (0 ≤ (rd x8_2 0)) = true := decide_eq_true c31
                       clear c31
                       by_cases c32 : (rd x8_2 0) < (l1_2.length : Int)
                       · rw [if_pos c32] at H
                         have c32b0 : decide ((rd x8_2 0) < (l1_2.length : Int)) = true := decide_eq_true c32
                         clear c32
                         by_cases c33 : (rd x8_2 0) < (x6_2.length : Int)
                         · rw [if_pos c33] at H
                           have c33b0 : decide ((rd x8_2 0) < (x6_2.length : Int)) = true := decide_eq_true c33
                           clear c33
                           replace H := Option.bind_eq_some_iff.mp H
                           obtain ⟨t126, A340, H⟩ := H
                           replace H : ((QbC.f ((Qah l1_2 (rd x8_2 0)).f0) ((Qah l1_2 (rd x8_2 0)).f1) (rd x8_2 0)).bind fun t128 => (Qat.l2 k2 x6_2 y121 t126 t128 0 l0_0 a1_0 a1_1 l1_2)) = some (r1, r2) := H
                           have A34 := Aside0.mk A340
                           clear A340
                           replace H := Option.bind_eq_some_iff.mp H
                           obtain ⟨t128, A350, H⟩ := H
                           replace H : (Qat.l2 k2 x6_2 y121 t126 t128 0 l0_0 a1_0 a1_1 l1_2) = some (r1, r2) := H
                           have A35 := Aside0.mk A350
                           clear A350
                           have H' := Aside0.mk H
                           clear H
                           obtain ⟨Ao36, co36, eo36⟩ := Kd.R_slice HO_8.out
                           subst eo36
                           have p113 : 0 ≤ (0 : Int) := (by omega)
                           have q113 : 0 < (x8_2.length : Int) := of_decide_eq_true (by first | (with_reducible assumption) | assumption)
                           obtain ⟨ad113, e113, hx113_0⟩ := Kd.at_int (Kd.R_reads' HO_8.out).2.2 0 p113 q113
                           cases e113
                           have qi113 : (0 < x8_2.length) = True := eq_true (by omega)
                           (try rw [show ((0 : Int)).toNat = 0 from rfl] at hx113_0)
                           (try rw [Addr.add_zero'] at hx113_0)
                           replace p113 := eq_true p113
                           replace q113 := eq_true q113
                           try go_wp2_with (first | ((with_reducible refine QaH (N := 39) rfl ?_); (try (refine Qa8 (by rfl) ?_; dsimp only)); refine Kd.R_lit (Kd.int .i64) _ 3 ?hg (N := 39) ?hd (xs := ([] : List Int)) (inner := []) (ok := fun _ => True) (okp := fun _ => True) ?hr ?hp (fun _ hk => hk) trivial (Below.refl _ _) (Nat.le_refl _) (by simp) ?_; (case hd => rfl); (case hg => rfl); (case hr => first | (go_simp; done) | (go_simp; rfl)); (case hp => exact (Qa9.none _ _)); intro v115 w37 ho38 hb hg_ hnew_; clear hg_ hnew_; (first | rw [← Ny114.out] at ho38 | (simp only [Int.reduceToNat] at ho38; rw [← Ny114.out] at ho38)); have n0_ := Aside0.mk (Kd.R_elder' (by (refine QaP ?_); exact HO_6.out) (Kd.R_base ho38) hb); have n1_ := Aside0.mk (Kd.R_elder' (by (refine QaP ?_); exact HO_8.out) (Kd.R_base ho38) hb); have n2_ := Aside0.mk (Kd.R_lower (Kd.R_new' (Kd.R_new' ho38 (Kd.R_lt (by (refine QaP ?_); exact HO_6.out))) (Kd.R_lt (by (refine QaP ?_); exact HO_8.out))) (QaY (bw_))); have n3_ := Aside0.mk (bb_ BK101 hb); have n4_ := Aside0.mk (bb_ BK102 hb); have n5_ := Aside0.mk (Qap (bw_) hb); clear HO_6; clear HO_8; clear BK101; clear BK102; clear HB; have HO_6 := n0_; have HO_8 := n1_; have HO116 := n2_; have BK101 := n3_; have BK102 := n4_; have HB := n5_; clear n0_ n1_ n2_ n3_ n4_ n5_; clear hb ho38; have q39 : (1 : Int) ≤ ((x8_2.length : Int) : Int) := of_decide_eq_true (by first | (with_reducible assumption) | assumption); obtain ⟨i039, hi039, _, hsz39, _⟩ := info_parts info3; have hroom39 : x8_2.length ≤ co36 := (Kd.R_reads' HO_8.out).2.1; have hC39 : Kd.C (Kd.int .i64) _ (some ad113) x8_2.length x8_2 := (Kd.R_reads' HO_8.out).2.2; have hcut39 := cut_from (P := Try.prog) 28 3 .i64 Try.underlying28 hi039 1 hsz39 (some ad113) x8_2.length co36 1 (by omega) q39; have hr39 := Kd.C_drop (m := (1 : Int).toNat) (c := co36) hC39 (by omega) hroom39; obtain ⟨A39, hA39⟩ : ∃ A1, A1 = (if co36 = (1 : Int).toNat then (some ad113) else ((some ad113) : Option Addr).map (·.add ((1 : Int).toNat * 1))) := ⟨_, rfl⟩; obtain ⟨c39, hc39⟩ : ∃ c1, c1 = co36 - (1 : Int).toNat := ⟨_, rfl⟩; have hy39 : y117.length = x8_2.length - (1 : Int).toNat := (by rw [Ny117.out, List.length_drop] <;> omega); rw [show (x8_2).drop (1 : Int).toNat = y117 from Ny117.out.symm] at hr39; replace hr39 : Kd.C (Kd.int .i64) _ A39 y117.length y117 := (by rw [hA39]; exact hr39); rw [← hy39, ← hA39, ← hc39] at hcut39; have HR120 := Aside0.mk hr39; have HC120 := Aside0.mk (show y117.length ≤ c39 from by rw [hy39, hc39]; exact Nat.sub_le_sub_right hroom39 _); clear hr39 hC39 hroom39 hi039 hsz39 hc39; have KY39 := Aside0.mk hy39; have KA39 := Aside0.mk hA39; clear hy39 hA39; have KL39 := Aside0.mk (show 1 ≤ x8_2.length from by omega); replace q39 := eq_true q39) | ((with_reducible refine QaW (b := .append) (xs := #[.tmp 39, .tmp 41]) rfl ?_); (try (refine Qa8 (by rfl) ?_; dsimp only)); at_builtin; refine Kd.R_append_rows (Kd.int .i64) (w0 := w) w.heap.size rfl (.tmp 39) (.tmp 41) 28 3 (.int .i64 0) 8 rfl Try.underlying28 info3 rfl (by decide) (by omega) v115 y114 y117 _ _ _ (fun k_ => some k_ ≠ (.slice (some ⟨go19, 0, none⟩) x6_2.length co19 : Value).ownBlock ∧ some k_ ≠ (.slice (some ad113) x8_2.length co36 : Value).ownBlock) (fun _ => False) rfl rfl ?aO ?aR (fun _ _ h => h) (fun _ h => h.elim) ?aF ?aB ?aS ?aL ?_; (case aR => repeat (first | exact (by repeat (first | (with_reducible exact HR120.out) | (with_reducible refine Kd.C_alloc ?_ _) | (with_reducible refine Kd.C_drewN ?_ _) | (with_reducible refine Kd.C_drew ?_) | exact HR120.out)) | (with_reducible refine Kd.C_alloc ?_ _) | (with_reducible refine Kd.C_drewN ?_ _) | (with_reducible refine Kd.C_drew ?_))); (case aB => exact (bw_)); (case aF => exact (fun k_ hk => ⟨Kd.fresh' (Kd.R_lt (by (refine QaP ?_); exact HO_6.out)) k_ hk, Kd.fresh' (Kd.R_lt (by (refine QaP ?_); exact HO_8.out)) k_ hk⟩)); (case aO => exact (by (refine QaP ?_); exact Kd.R_mono HO116.out (fun _ hk => ⟨hk.1.2, hk.2⟩))); (case aS => exact (QaY (bw_))); (case aL => have := LMc30.out; omega); intro v122 w40 ho hb hg hat; rw [← Ny121.out] at ho; have n0_ := Aside0.mk (Kd.R_after (ok := (fun k_ => some k_ ≠ (.slice (some ad113) x8_2.length co36 : Value).ownBlock)) (by (refine QaP ?_); exact HO_6.out) hg hat); have n1_ := Aside0.mk (Kd.R_after (ok := (fun k_ => some k_ ≠ (.slice (some ⟨go19, 0, none⟩) x6_2.length co19 : Value).ownBlock)) (by (refine QaP ?_); exact HO_8.out) hg hat); have n2_ := Aside0.mk (QaU (g := gb101) (o := .cells #[.slice A0_0 l0_0.length c0_0] 25 (0, 0)) (by (refine kb_ ?_); exact BK101.out) hg (Kd.R_ne HO116.out BK101.out (by decide))); have n3_ := Aside0.mk (QaU (g := gb102) (o := .cells #[.int .i64 a1_0, .int .i64 a1_1, .slice A1_2 l1_2.length c1_2] 34 (0, 0)) (by (refine kb_ ?_); exact BK102.out) hg (Kd.R_ne HO116.out BK102.out (by decide))); have n4_ := Aside0.mk (hb); have n5_ := Aside0.mk ((show Kd.C (Kd.int .i64) w40 A39 y117.length y117 from by rw [Ny117.out, KA39.out]; exact Kd.C_drop (m := 1) (c := co36) ((Kd.R_reads' (Kd.R_after (ok := (fun k_ => some k_ ≠ (.slice (some ⟨go19, 0, none⟩) x6_2.length co19 : Value).ownBlock)) (by (refine QaP ?_); exact HO_8.out) hg hat)).2.2) KL39.out ((Kd.R_reads' (Kd.R_after (ok := (fun k_ => some k_ ≠ (.slice (some ⟨go19, 0, none⟩) x6_2.length co19 : Value).ownBlock)) (by (refine QaP ?_); exact HO_8.out) hg hat)).2.1))); have n6_ := Aside0.mk (ho); clear HO_6; clear HO_8; clear BK101; clear BK102; clear HB; clear HR120; clear HO116; have HO_6 := n0_; have HO_8 := n1_; have BK101 := n2_; have BK102 := n3_; have HB := n4_; have HR120 := n5_; have HO123 := n6_; clear n0_ n1_ n2_ n3_ n4_ n5_ n6_; clear ho hb hg hat))
                           have n0_ := Aside0.mk (Kd.R_drew HO_6.out)
                           have n1_ := Aside0.mk (Kd.R_drew HO_8.out)
                           have n2_ := Aside0.mk (Kd.R_drew HO123.out)
                           have n3_ := Aside0.mk (Qbf BK101.out)
                           have n4_ := Aside0.mk (Qbf BK102.out)
                           have n5_ := Aside0.mk (Kd.C_drew HR120.out)
                           have n6_ := Aside0.mk (Qav HB.out)
                           clear HO_6
                           clear HO_8
                           clear HO123
                           clear BK101
                           clear BK102
                           clear HR120
                           clear HB
                           have HO_6 := n0_
                           have HO_8 := n1_
                           have HO123 := n2_
                           have BK101 := n3_
                           have BK102 := n4_
                           have HR120 := n5_
                           have HB := n6_
                           clear n0_ n1_ n2_ n3_ n4_ n5_ n6_
                           have p124 : 0 ≤ ((rd x8_2 0) : Int) := of_decide_eq_true (by first | (with_reducible assumption) | assumption)
                           have q124 : (rd x8_2 0) < (l1_2.length : Int) := of_decide_eq_true (by first | (with_reducible assumption) | assumption)
                           obtain ⟨ad124, e124, hx124_0, hx124_1⟩ := QbJ HR1_2.out (rd x8_2 0) p124 q124
                           have hw124_1 := hx124_1
                           have hw124_0 := hx124_0
                           cases e124
                           replace hx124_0 := pc_ HB hx124_0
                           replace hx124_1 := pc_ HB hx124_1
                           replace p124 := eq_true p124
                           replace q124 := eq_true q124
                           have p125 : 0 ≤ ((rd x8_2 0) : Int) := of_decide_eq_true (by first | (with_reducible assumption) | assumption)
                           have q125 : (rd x8_2 0) < (x6_2.length : Int) := of_decide_eq_true (by first | (with_reducible assumption) | assumption)
                           obtain ⟨ad125, e125, hx125_0⟩ := Kd.at_int (Kd.R_reads' HO_6.out).2.2 (rd x8_2 0) p125 q125
                           obtain rfl : (⟨go19, 0, none⟩ : Addr) = ad125 := (by injection e125)
                           (first | simp only [Qbn] at hx125_0 | simp only [Qb1] at hx125_0 | simp only [Addr.add, Nat.zero_add] at hx125_0 | skip)
                           replace p125 := eq_true p125
                           replace q125 := eq_true q125
                           refine Qch (n := 12) (S := fun w' => w'.cell? ⟨gb101, 0, none⟩ = some (.slice A0_0 l0_0.length c0_0) ∧ w'.cell? ⟨gb102, 0, none⟩ = some (.int .i64 a1_0) ∧ w'.cell? ⟨gb102, 1, none⟩ = some (.int .i64 a1_1) ∧ w'.cell? ⟨gb102, 2, none⟩ = some (.slice (some ad124) l1_2.length c1_2) ∧ w'.cell? (ad124.add (((rd x8_2 0)).toNat * 2)) = some (.int .i64 ((Qah l1_2 (rd x8_2 0)).f0)) ∧ w'.cell? ⟨(ad124.add (((rd x8_2 0)).toNat * 2)).block, (ad124.add (((rd x8_2 0)).toNat * 2)).off + 1, none⟩ = some (.int .i64 ((Qah l1_2 (rd x8_2 0)).f1)) ∧ w'.cell? ⟨go19, ((rd x8_2 0)).toNat, none⟩ = some (.int .i64 (rd x6_2 (rd x8_2 0)))) (ds := []) #[false, false, false, false, false, false, false, false, false, false, false, false] (by kernel_rfl) rfl rfl ⟨(Qaf BK101.out 0).trans rfl, (Qaf BK102.out 0).trans rfl, (Qaf BK102.out 1).trans rfl, (Qaf BK102.out 2).trans rfl, (pc_ HB hw124_0), (pc_ HB hw124_1), hx125_0⟩ (fun hHeld => ?_); refine Qby Qat.tab13 Qat.bits13 (fun HT_ HW_ => ?_)
                           generalize w40.drew = w41 at HO_6 HO_8 HO123 BK101 BK102 HR120 HB hx124_0 hx124_1 hx125_0 hHeld ⊢
                           refine pu_ 1 (some 44) #[false, true, false, false, false, false, false, false, false, false, false, false] rfl rfl ?_
                           refine pu_ 3 (some 46) #[false, true, false, true, false, false, false, false, false, false, false, false] rfl rfl ?_
                           refine pu_ 6 (some 49) #[false, true, false, true, false, false, true, false, false, false, false, false] rfl rfl ?_
                           refine pu_ 7 (some 50) #[false, true, false, true, false, false, true, true, false, false, false, false] rfl rfl ?_
                           refine pu_ 8 (some 51) #[false, true, false, true, false, false, true, true, true, false, false, false] rfl rfl ?_
                           refine tk_ 0 (some 43) #[true, true, false, true, false, false, true, true, true, false, false, false] rfl rfl hHeld ?_
                           refine tk_ 2 (some 45) #[true, true, true, true, false, false, true, true, true, false, false, false] rfl rfl hHeld ?_
                           refine pu_ 4 (some 47) #[true, true, true, true, true, false, true, true, true, false, false, false] rfl rfl ?_
                           refine tk_ 5 (some 48) #[true, true, true, true, true, true, true, true, true, false, false, false] rfl rfl hHeld ?_
                           refine tk_ 9 (some 52) #[true, true, true, true, true, true, true, true, true, true, false, false] rfl rfl hHeld ?_
                           refine one_ (i := 10) (N := some 53) #[true, true, true, true, true, true, true, true, true, true, true, false] rfl rfl (Qbw HT_.out (by kernel_rfl)) (by decide) (fun K hK => ?_)
                           refine goes_ Try.func61 (by kernel_rfl) rfl #[.agg #[.slice A0_0 l0_0.length c0_0], .agg #[.int .i64 ((Qah l1_2 (rd x8_2 0)).f0), .int .i64 ((Qah l1_2 (rd x8_2 0)).f1)], .int .i64 (rd x6_2 (rd x8_2 0))] (by rfl) rfl rfl (by (try simp only [List.map_toArray, List.map_cons, List.map_nil]); first | done | rfl | (simp only [List.length_drop, List.length_take]; rfl)) ?_
                           with_reducible refine (Qa7.calls k2 _ _ l0_0 ((Qah l1_2 (rd x8_2 0)).f0) ((Qah l1_2 (rd x8_2 0)).f1) (rd x6_2 (rd x8_2 0)) t126 _ ?side1 ?side2 A34.out).mono ?_
                           (case side1 => exact cb_)
                           (case side2 => exact HC0_0.out)
                           rintro e w42 ⟨rfl, hb⟩
                           have HS6_ := (hb.cell (World.block_lt_of_cell? _ _ (hHeld.2.2.2.2.2.2))).trans (hHeld.2.2.2.2.2.2)
                           refine ⟨_, rfl, ?_⟩
                           have n0_ := Aside0.mk (Kd.R_below (by (refine QaP ?_); exact HO_6.out) hb)
                           have n1_ := Aside0.mk (Kd.R_below (by (refine QaP ?_); exact HO_8.out) hb)
                           have n2_ := Aside0.mk (Kd.R_below (by (refine QaP ?_); exact HO123.out) hb)
                           have n3_ := Aside0.mk (bb_ BK101 hb)
                           have n4_ := Aside0.mk (bb_ BK102 hb)
                           have n5_ := Aside0.mk (Kd.C_below (by repeat (first | (with_reducible exact HR120.out) | (with_reducible refine Kd.C_alloc ?_ _) | (with_reducible refine Kd.C_drewN ?_ _) | (with_reducible refine Kd.C_drew ?_) | exact HR120.out)) hb)
                           have n6_ := Aside0.mk (Qap (bw_) hb)
                           clear HO_6
                           clear HO_8
                           clear HO123
                           clear BK101
                           clear BK102
                           clear HR120
                           clear HB
                           have HO_6 := n0_
                           have HO_8 := n1_
                           have HO123 := n2_
                           have BK101 := n3_
                           have BK102 := n4_
                           have HR120 := n5_
                           have HB := n6_
                           clear n0_ n1_ n2_ n3_ n4_ n5_ n6_
                           (try clear hb)
                           (try clear hb2)
                           (try clear hk)
                           (try clear hi)
                           refine hK.out _ _ ⟨(Qaf BK101.out 0).trans rfl, (Qaf BK102.out 0).trans rfl, (Qaf BK102.out 1).trans rfl, (Qaf BK102.out 2).trans rfl, (pc_ HB hw124_0), (pc_ HB hw124_1), HS6_⟩ (fun hHeld => ?_)
                           clear hK K
                           refine Qbo (a' := ?_) ?_ ?_
                           rotate_left
                           · show Act.put _ (some 53) _ = _
                             simp only [Act.put, List.setIfInBounds_toArray, List.set_cons_zero, List.set_cons_succ, Qbb, Qbd]
                             rfl
                           refine pu_ 11 (some 10) #[true, true, true, true, true, true, true, true, true, true, true, true] rfl rfl ?_
                           refine done_ (QbY HT_.out (by kernel_rfl)) ?_
                           have hnb43 := NB102_101.out
                           have hnc43 := NB101_102.out
                           have hcz44_0 : w42.cell? ⟨gb102, 0, none⟩ = some (.int .i64 a1_0) := (Qaf BK102.out 0).trans rfl
                           have hcz44_1 : w42.cell? ⟨gb102, 1, none⟩ = some (.int .i64 a1_1) := (Qaf BK102.out 1).trans rfl
                           have hcz44_2 : w42.cell? ⟨gb102, 2, none⟩ = some (.slice (some ad124) l1_2.length c1_2) := (Qaf BK102.out 2).trans rfl
                           have hfz44_0 := Qaj BK102.out 0
                           have hfz44_1 := Qaj BK102.out 1
                           have hfz44_2 := Qaj BK102.out 2
                           have p127 : 0 ≤ ((rd x8_2 0) : Int) := of_decide_eq_true (by first | (with_reducible assumption) | assumption)
                           have q127 : (rd x8_2 0) < (l1_2.length : Int) := of_decide_eq_true (by first | (with_reducible assumption) | assumption)
                           obtain ⟨ad127, e127, hx127_0, hx127_1⟩ := QbJ HR1_2.out (rd x8_2 0) p127 q127
                           obtain rfl : ad124 = ad127 := (by injection e127)
                           replace hx127_0 := pc_ HB hx127_0
                           replace hx127_1 := pc_ HB hx127_1
                           replace p127 := eq_true p127
                           replace q127 := eq_true q127
                           try go_wp2_with (first | ((with_reducible refine Qax (f := 103) rfl ?_); refine QaX (some 60) rfl rfl Try.func103 (by kernel_rfl) rfl #[.agg #[.int .i64 ((Qah l1_2 (rd x8_2 0)).f0), .int .i64 ((Qah l1_2 (rd x8_2 0)).f1)], .int .i64 (rd x8_2 0)] rfl (by (try simp only [List.map_toArray, List.map_cons, List.map_nil]); first | done | rfl | (simp only [List.length_drop, List.length_take]; rfl)) ?_; (with_reducible refine (QbC.calls ((Qah l1_2 (rd x8_2 0)).f0) ((Qah l1_2 (rd x8_2 0)).f1) (rd x8_2 0) t128 _ A35.out).mono ?_); rintro e w45 ⟨v129, rfl, ho0, hb⟩; refine ⟨_, rfl, ?_⟩; have n0_ := Aside0.mk (Kd.R_elder' (by (refine QaP ?_); exact HO_6.out) (Kd.R_base ho0) hb); have n1_ := Aside0.mk (Kd.R_elder' (by (refine QaP ?_); exact HO_8.out) (Kd.R_base ho0) hb); have n2_ := Aside0.mk (Kd.R_elder' (by (refine QaP ?_); exact HO123.out) (Kd.R_base ho0) hb); have n3_ := Aside0.mk (Kd.R_lower (Kd.R_new' (Kd.R_new' (Kd.R_new' ho0 (Kd.R_lt (by (refine QaP ?_); exact HO_6.out))) (Kd.R_lt (by (refine QaP ?_); exact HO_8.out))) (Kd.R_lt (by (refine QaP ?_); exact HO123.out))) (QaY (bw_))); have n4_ := Aside0.mk (bb_ BK101 hb); have n5_ := Aside0.mk (bb_ BK102 hb); have n6_ := Aside0.mk (Kd.C_below (by repeat (first | (with_reducible exact HR120.out) | (with_reducible refine Kd.C_alloc ?_ _) | (with_reducible refine Kd.C_drewN ?_ _) | (with_reducible refine Kd.C_drew ?_) | exact HR120.out)) hb); have n7_ := Aside0.mk (Qap (bw_) hb); clear HO_6; clear HO_8; clear HO123; clear BK101; clear BK102; clear HR120; clear HB; have HO_6 := n0_; have HO_8 := n1_; have HO123 := n2_; have HO130 := n3_; have BK101 := n4_; have BK102 := n5_; have HR120 := n6_; have HB := n7_; clear n0_ n1_ n2_ n3_ n4_ n5_ n6_ n7_; (try clear hb); (try clear hb2); (try clear hk); (try clear hi); (try clear ho0)))
                           go_loopg [8, 12] k2 (fun kq v8 v12 w' => ∃ (x6_3 : List Int) (x8_3 : List Int) (x12_3 : Int), v12 = .int .i64 x12_3 ∧ Aside0 (Qat.l2 kq x6_3 x8_3 t126 t128 x12_3 l0_0 a1_0 a1_1 l1_2 = some (r1, r2)) ∧ Aside0 (kq ≤ k2) ∧ Aside0 (Kd.R (Kd.int .i64) 3 w' w.heap.size (fun k_ => some k_ ≠ (v8 : Value).ownBlock ∧ some k_ ≠ (v129 : Value).ownBlock) (.slice (some ⟨go19, 0, none⟩) x6_2.length co19) x6_3) ∧ Aside0 (Kd.R (Kd.int .i64) 3 w' w.heap.size (fun k_ => some k_ ≠ ((.slice (some ⟨go19, 0, none⟩) x6_2.length co19) : Value).ownBlock ∧ some k_ ≠ (v129 : Value).ownBlock) v8 x8_3) ∧ Aside0 (Kd.R (Kd.int .i64) 3 w' w.heap.size (fun k_ => some k_ ≠ ((.slice (some ⟨go19, 0, none⟩) x6_2.length co19) : Value).ownBlock ∧ some k_ ≠ (v8 : Value).ownBlock) v129 t128) ∧ Aside0 (w'.heap[gb101]? = some (.cells #[(.slice A0_0 l0_0.length c0_0)] 25 (0, 0))) ∧ Aside0 (w'.heap[gb102]? = some (.cells #[.int .i64 a1_0, .int .i64 a1_1, (.slice (some ad124) l1_2.length c1_2)] 34 (0, 0))) ∧ Aside0 (Below w.heap.size w w'))
                           case atStart => exact ⟨(x6_2), (y121), (0), (by first | rfl | (simp; done) | (simp [*]; done)), H', ⟨Nat.le_refl _⟩, ⟨by (try simp only [hl6_2]); (refine QaP ?_); exact Kd.R_mono HO_6.out (fun _ hk => ⟨hk.1.2, hk.2⟩)⟩, ⟨by (try simp only [hl6_2]); (refine QaP ?_); exact Kd.R_mono HO123.out (fun _ hk => ⟨hk.1.1, hk.2⟩)⟩, ⟨by (try simp only [hl6_2]); (refine QaP ?_); exact Kd.R_mono HO130.out (fun _ hk => ⟨hk.1.1.2, hk.2⟩)⟩, ⟨by (try simp only [hl6_2]); (refine kb_ ?_); exact BK101.out⟩, ⟨by (try simp only [hl6_2]); (refine kb_ ?_); exact BK102.out⟩, ⟨bw_⟩⟩
                           case round =>
                            clear H'
                            try clear c1
                            try clear p1
                            try clear q1
                            try clear hx1
                            try clear qi1
                            try clear c2
                            try clear p2
                            try clear c3
                            try clear q3
                            try clear c4
                            try clear c5
                            try clear c6
                            try clear p6
                            try clear c7
                            try clear c7b0
                            try clear c8
                            try clear c9
                            try clear c10
                            try clear p11
                            try clear q11
                            try clear hx11
                            try clear qi11
                            try clear c12
                            try clear c12b0
                            try clear c12b1
                            try clear c12b2
                            try clear p12
                            try clear q12
                            try clear hx12
                            try clear c13
                            try clear c18
                            try clear c18b0
                            try clear c18b1
                            try clear p19
                            try clear q19
                            try clear hx19
                            try clear qi19
                            try clear hf19
                            try clear c20
                            try clear c27
                            try clear c27b0
                            try clear c27b1
                            try clear c28
                            try clear c28b0
                            try clear c28b1
                            try clear c29
                            try clear c29b0
                            try clear c29b1
                            try clear c30
                            try clear c31
                            try clear c31b0
                            try clear c32
                            try clear c32b0
                            try clear c33
                            try clear c33b0
                            try clear c39
                            try clear q39
                            try clear c43
                            try clear hcz10_0
                            try clear hcz10_1
                            try clear hcz10_2
                            try clear hcz14_0
                            try clear hcz14_1
                            try clear hcz14_2
                            try clear hcz17_0
                            try clear hcz17_1
                            try clear hcz17_2
                            try clear hcz21_0
                            try clear hcz21_1
                            try clear hcz21_2
                            try clear hcz24_0
                            try clear hcz24_1
                            try clear hcz24_2
                            try clear hcz44_0
                            try clear hcz44_1
                            try clear hcz44_2
                            try clear hfz10_0
                            try clear hfz10_1
                            try clear hfz10_2
                            try clear hfz14_0
                            try clear hfz14_1
                            try clear hfz14_2
                            try clear hfz17_0
                            try clear hfz17_1
                            try clear hfz17_2
                            try clear hfz21_0
                            try clear hfz21_1
                            try clear hfz21_2
                            try clear hfz24_0
                            try clear hfz24_1
                            try clear hfz24_2
                            try clear hfz44_0
                            try clear hfz44_1
                            try clear hfz44_2
                            try clear hx113_0
                            try clear hx124_0
                            try clear hx124_1
                            try clear hx125_0
                            try clear hx127_0
                            try clear hx127_1
                            try clear hx19_0
                            try clear p1
                            try clear p113
                            try clear p124
                            try clear p125
                            try clear p127
                            try clear p19
                            try clear p2
                            try clear p6
                            try clear q1
                            try clear q113
                            try clear q124
                            try clear q125
                            try clear q127
                            try clear q19
                            try clear q39
                            obtain ⟨x6_3, x8_3, x12_3, rfl, HA, HK3, HO_6, HO_8, HO_11, BK101, BK102, HB⟩ := hrel
                            have hl6_3 := (Kd.R_reads' HO_6.out).1
                            rw [hl6_3] at HO_6
                            (try simp only [hl6_3])
                            (try simp only [hl6_3] at BK101)
                            (try simp only [hl6_3] at BK102)
                            (try simp only [hl6_3] at HO_8)
                            (try simp only [hl6_3] at HO_11)
                            cases gk with
                            | zero => exact absurd HA.out (by simp [Qat.l2])
                            | succ k3 =>
                              have H := HA.out
                              clear HA
                              simp only [Qat.l2] at H
                              by_cases c46 : x12_3 < (t128.length : Int)
                              · rw [if_pos c46] at H
                                have c46b0 : decide (x12_3 < (t128.length : Int)) = true := decide_eq_true c46
                                clear c46
                                by_cases c47 : 0 ≤ x12_3
                                · rw [if_pos c47] at H
                                  have c47b0 : decide (0 ≤ x12_3) = true := decide_eq_true c47
                                  clear c47
                                  have HC48 := Aside0.mk H
                                  clear H
                                  obtain ⟨Ao49, co49, eo49⟩ := Kd.R_slice HO_11.out
                                  subst eo49
                                  have p131 : 0 ≤ (x12_3 : Int) := of_decide_eq_true (by first | (with_reducible assumption) | assumption)
                                  have q131 : x12_3 < (t128.length : Int) := of_decide_eq_true (by first | (with_reducible assumption) | assumption)
                                  obtain ⟨ad131, e131, hx131_0⟩ := Kd.at_int (Kd.R_reads' HO_11.out).2.2 x12_3 p131 q131
                                  cases e131
                                  replace p131 := eq_true p131
                                  replace q131 := eq_true q131
                                  go_upto_region 19 with (fail)
                                  go_cut [94] (fun v94 wc => ∃ (kq : Nat) (x94_47 : Bool), v94 = .bool x94_47 ∧ Aside0 (Qat.j3 kq x6_3 x8_3 t126 t128 x12_3 (rd t128 x12_3) x94_47 l0_0 a1_0 a1_1 l1_2 = some (r1, r2)) ∧ Aside0 (kq ≤ k3) ∧ Aside0 (Kd.R (Kd.int .i64) 3 wc w.heap.size (fun k_ => some k_ ≠ (u8 : Value).ownBlock ∧ some k_ ≠ ((.slice (some ad131) t128.length co49) : Value).ownBlock) (.slice (some ⟨go19, 0, none⟩) x6_3.length co19) x6_3) ∧ Aside0 (Kd.R (Kd.int .i64) 3 wc w.heap.size (fun k_ => some k_ ≠ ((.slice (some ⟨go19, 0, none⟩) x6_3.length co19) : Value).ownBlock ∧ some k_ ≠ ((.slice (some ad131) t128.length co49) : Value).ownBlock) u8 x8_3) ∧ Aside0 (Kd.R (Kd.int .i64) 3 wc w.heap.size (fun k_ => some k_ ≠ ((.slice (some ⟨go19, 0, none⟩) x6_3.length co19) : Value).ownBlock ∧ some k_ ≠ (u8 : Value).ownBlock) (.slice (some ad131) t128.length co49) t128) ∧ Aside0 (wc.heap[gb101]? = some (.cells #[(.slice A0_0 l0_0.length c0_0)] 25 (0, 0))) ∧ Aside0 (wc.heap[gb102]? = some (.cells #[.int .i64 a1_0, .int .i64 a1_1, (.slice (some ad124) l1_2.length c1_2)] 34 (0, 0))) ∧ Aside0 (Below w.heap.size w wc))
                                  case first =>
                                   have H := HC48.out
                                   clear HC48
                                   by_cases c50 : t126 < 0
                                   · rw [if_pos c50] at H
                                     have c50b0 : decide (t126 < 0) = true := decide_eq_true c50
                                     clear c50
                                     (first | rw [c50b0] | (simp only [Qbb, Qbd]; rw [c50b0]) | skip)
                                     have H' := Aside0.mk H
                                     clear H
                                     go_wp2
                                     go_meet
                                     case rel => exact ⟨_, (true), (by first | rfl | (simp; done) | (simp [*]; done)), H', ⟨by have := HK1.out; have := HK2.out; have := HK3.out; first | omega | exact Nat.le_refl _⟩, ⟨by (try simp only [hl6_2]); (try simp only [hl6_3]); (refine QaP ?_); exact HO_6.out⟩, ⟨by (try simp only [hl6_2]); (try simp only [hl6_3]); (refine QaP ?_); exact HO_8.out⟩, ⟨by (try simp only [hl6_2]); (try simp only [hl6_3]); (refine QaP ?_); exact HO_11.out⟩, ⟨by (try simp only [hl6_2]); (try simp only [hl6_3]); (refine kb_ ?_); exact BK101.out⟩, ⟨by (try simp only [hl6_2]); (try simp only [hl6_3]); (refine kb_ ?_); exact BK102.out⟩, ⟨bw_⟩⟩
                                   · rw [if_neg c50] at H
                                     have c50b0 : decide (t126 < 0) = false := decide_eq_false c50
                                     clear c50
                                     (first | rw [c50b0] | (simp only [Qbb, Qbd]; rw [c50b0]) | skip)
                                     by_cases c51 : (rd t128 x12_3) ≥ (l1_2.length : Int)
                                     · rw [if_pos c51] at H
                                       have c51b0 : decide ((l1_2.length : Int) ≤ (rd t128 x12_3)) = true := decide_eq_true c51
                                       clear c51
                                       have H' := Aside0.mk H
                                       clear H
                                       have hnb52 := NB102_101.out
                                       have hnc52 := NB101_102.out
                                       have hcz53_0 : wr.cell? ⟨gb102, 0, none⟩ = some (.int .i64 a1_0) := (Qaf BK102.out 0).trans rfl
                                       have hcz53_1 : wr.cell? ⟨gb102, 1, none⟩ = some (.int .i64 a1_1) := (Qaf BK102.out 1).trans rfl
                                       have hcz53_2 : wr.cell? ⟨gb102, 2, none⟩ = some (.slice (some ad124) l1_2.length c1_2) := (Qaf BK102.out 2).trans rfl
                                       have hfz53_0 := Qaj BK102.out 0
                                       have hfz53_1 := Qaj BK102.out 1
                                       have hfz53_2 := Qaj BK102.out 2
                                       go_wp2
                                       go_meet
                                       case rel => exact ⟨_, (true), (by first | rfl | (simp; done) | (simp [*]; done)), H', ⟨by have := HK1.out; have := HK2.out; have := HK3.out; first | omega | exact Nat.le_refl _⟩, ⟨by (try simp only [hl6_2]); (try simp only [hl6_3]); (refine QaP ?_); exact HO_6.out⟩, ⟨by (try simp only [hl6_2]); (try simp only [hl6_3]); (refine QaP ?_); exact HO_8.out⟩, ⟨by (try simp only [hl6_2]); (try simp only [hl6_3]); (refine QaP ?_); exact HO_11.out⟩, ⟨by (try simp only [hl6_2]); (try simp only [hl6_3]); (refine kb_ ?_); exact BK101.out⟩, ⟨by (try simp only [hl6_2]); (try simp only [hl6_3]); (refine kb_ ?_); exact BK102.out⟩, ⟨bw_⟩⟩
                                     · rw [if_neg c51] at H
                                       have c51b0 : decide ((l1_2.length : Int) ≤ (rd t128 x12_3)) = false := decide_eq_false c51
                                       clear c51
                                       by_cases c54 : 0 ≤ (rd t128 x12_3)
                                       · rw [if_pos c54] at H
                                         have c54b0 : decide (0 ≤ (rd t128 x12_3)) = true := decide_eq_true c54
                                         clear c54
                                         by_cases c55 : (rd t128 x12_3) < (x6_3.length : Int)
                                         · rw [if_pos c55] at H
                                           have c55b0 : decide ((rd t128 x12_3) < (x6_3.length : Int)) = true := decide_eq_true c55
                                           clear c55
                                           by_cases c56 : (rd x6_3 (rd t128 x12_3)) ≥ 0
                                           · rw [if_pos c56] at H
                                             have c56b0 : decide (0 ≤ (rd x6_3 (rd t128 x12_3))) = true := decide_eq_true c56
                                             clear c56
                                             have H' := Aside0.mk H
                                             clear H
                                             have hnb57 := NB102_101.out
                                             have hnc57 := NB101_102.out
                                             have hcz58_0 : wr.cell? ⟨gb102, 0, none⟩ = some (.int .i64 a1_0) := (Qaf BK102.out 0).trans rfl
                                             have hcz58_1 : wr.cell? ⟨gb102, 1, none⟩ = some (.int .i64 a1_1) := (Qaf BK102.out 1).trans rfl
                                             have hcz58_2 : wr.cell? ⟨gb102, 2, none⟩ = some (.slice (some ad124) l1_2.length c1_2) := (Qaf BK102.out 2).trans rfl
                                             have hfz58_0 := Qaj BK102.out 0
                                             have hfz58_1 := Qaj BK102.out 1
                                             have hfz58_2 := Qaj BK102.out 2
                                             have p132 : 0 ≤ ((rd t128 x12_3) : Int) := of_decide_eq_true (by first | (with_reducible assumption) | assumption)
                                             have q132 : (rd t128 x12_3) < (x6_3.length : Int) := of_decide_eq_true (by first | (with_reducible assumption) | assumption)
                                             obtain ⟨ad132, e132, hx132_0⟩ := Kd.at_int (Kd.R_reads' HO_6.out).2.2 (rd t128 x12_3) p132 q132
                                             obtain rfl : (⟨go19, 0, none⟩ : Addr) = ad132 := (by injection e132)
                                             (first | simp only [Qbn] at hx132_0 | simp only [Qb1] at hx132_0 | simp only [Addr.add, Nat.zero_add] at hx132_0 | skip)
                                             replace p132 := eq_true p132
                                             replace q132 := eq_true q132
                                             have p133 : 0 ≤ ((rd t128 x12_3) : Int) := of_decide_eq_true (by first | (with_reducible assumption) | assumption)
                                             have q133 : (rd t128 x12_3) < (x6_3.length : Int) := of_decide_eq_true (by first | (with_reducible assumption) | assumption)
                                             obtain ⟨ad133, e133, hx133_0⟩ := Kd.at_int (Kd.R_reads' HO_6.out).2.2 (rd t128 x12_3) p133 q133
                                             obtain rfl : (⟨go19, 0, none⟩ : Addr) = ad133 := (by injection e133)
                                             (first | simp only [Qbn] at hx133_0 | simp only [Qb1] at hx133_0 | simp only [Addr.add, Nat.zero_add] at hx133_0 | skip)
                                             replace p133 := eq_true p133
                                             replace q133 := eq_true q133
                                             go_wp2
                                             go_meet
                                             case rel => exact ⟨_, (((rd x6_3 (rd t128 x12_3)) != t126)), (by first | rfl | (simp; done) | (simp [*]; done)), H', ⟨by have := HK1.out; have := HK2.out; have := HK3.out; first | omega | exact Nat.le_refl _⟩, ⟨by (try simp only [hl6_2]); (try simp only [hl6_3]); (refine QaP ?_); exact HO_6.out⟩, ⟨by (try simp only [hl6_2]); (try simp only [hl6_3]); (refine QaP ?_); exact HO_8.out⟩, ⟨by (try simp only [hl6_2]); (try simp only [hl6_3]); (refine QaP ?_); exact HO_11.out⟩, ⟨by (try simp only [hl6_2]); (try simp only [hl6_3]); (refine kb_ ?_); exact BK101.out⟩, ⟨by (try simp only [hl6_2]); (try simp only [hl6_3]); (refine kb_ ?_); exact BK102.out⟩, ⟨bw_⟩⟩
                                           · rw [if_neg c56] at H
                                             have c56b0 : decide (0 ≤ (rd x6_3 (rd t128 x12_3))) = false := decide_eq_false c56
                                             clear c56
                                             have H' := Aside0.mk H
                                             clear H
                                             have hnb59 := NB102_101.out
                                             have hnc59 := NB101_102.out
                                             have hcz60_0 : wr.cell? ⟨gb102, 0, none⟩ = some (.int .i64 a1_0) := (Qaf BK102.out 0).trans rfl
                                             have hcz60_1 : wr.cell? ⟨gb102, 1, none⟩ = some (.int .i64 a1_1) := (Qaf BK102.out 1).trans rfl
                                             have hcz60_2 : wr.cell? ⟨gb102, 2, none⟩ = some (.slice (some ad124) l1_2.length c1_2) := (Qaf BK102.out 2).trans rfl
                                             have hfz60_0 := Qaj BK102.out 0
                                             have hfz60_1 := Qaj BK102.out 1
                                             have hfz60_2 := Qaj BK102.out 2
                                             have p132 : 0 ≤ ((rd t128 x12_3) : Int) := of_decide_eq_true (by first | (with_reducible assumption) | assumption)
                                             have q132 : (rd t128 x12_3) < (x6_3.length : Int) := of_decide_eq_true (by first | (with_reducible assumption) | assumption)
                                             obtain ⟨ad132, e132, hx132_0⟩ := Kd.at_int (Kd.R_reads' HO_6.out).2.2 (rd t128 x12_3) p132 q132
                                             obtain rfl : (⟨go19, 0, none⟩ : Addr) = ad132 := (by injection e132)
                                             (first | simp only [Qbn] at hx132_0 | simp only [Qb1] at hx132_0 | simp only [Addr.add, Nat.zero_add] at hx132_0 | skip)
                                             replace p132 := eq_true p132
                                             replace q132 := eq_true q132
                                             go_wp2
                                             go_meet
                                             case rel => exact ⟨_, (false), (by first | rfl | (simp; done) | (simp [*]; done)), H', ⟨by have := HK1.out; have := HK2.out; have := HK3.out; first | omega | exact Nat.le_refl _⟩, ⟨by (try simp only [hl6_2]); (try simp only [hl6_3]); (refine QaP ?_); exact HO_6.out⟩, ⟨by (try simp only [hl6_2]); (try simp only [hl6_3]); (refine QaP ?_); exact HO_8.out⟩, ⟨by (try simp only [hl6_2]); (try simp only [hl6_3]); (refine QaP ?_); exact HO_11.out⟩, ⟨by (try simp only [hl6_2]); (try simp only [hl6_3]); (refine kb_ ?_); exact BK101.out⟩, ⟨by (try simp only [hl6_2]); (try simp only [hl6_3]); (refine kb_ ?_); exact BK102.out⟩, ⟨bw_⟩⟩
                                         · rw [if_neg c55] at H
                                           exact absurd H (by simp)
                                       · rw [if_neg c54] at H
                                         exact absurd H (by simp)
                                  case rest =>
                                   clear HC48
                                   try clear c1
                                   try clear p1
                                   try clear q1
                                   try clear hx1
                                   try clear qi1
                                   try clear c2
                                   try clear p2
                                   try clear c3
                                   try clear q3
                                   try clear c4
                                   try clear c5
                                   try clear c6
                                   try clear p6
                                   try clear c7
                                   try clear c7b0
                                   try clear c8
                                   try clear c9
                                   try clear c10
                                   try clear p11
                                   try clear q11
                                   try clear hx11
                                   try clear qi11
                                   try clear c12
                                   try clear c12b0
                                   try clear c12b1
                                   try clear c12b2
                                   try clear p12
                                   try clear q12
                                   try clear hx12
                                   try clear c13
                                   try clear p13
                                   try clear q13
                                   try clear hx13
                                   try clear c18
                                   try clear c18b0
                                   try clear c18b1
                                   try clear p19
                                   try clear q19
                                   try clear hx19
                                   try clear qi19
                                   try clear hf19
                                   try clear c20
                                   try clear c27
                                   try clear c27b0
                                   try clear c27b1
                                   try clear c28
                                   try clear c28b0
                                   try clear c28b1
                                   try clear c29
                                   try clear c29b0
                                   try clear c29b1
                                   try clear c30
                                   try clear c31
                                   try clear c31b0
                                   try clear c32
                                   try clear c32b0
                                   try clear c33
                                   try clear c33b0
                                   try clear c39
                                   try clear q39
                                   try clear c43
                                   try clear c46
                                   try clear c46b0
                                   try clear c47
                                   try clear c47b0
                                   try clear c50
                                   try clear c50b0
                                   try clear c51
                                   try clear c51b0
                                   try clear c52
                                   try clear c54
                                   try clear c54b0
                                   try clear c55
                                   try clear c55b0
                                   try clear c56
                                   try clear c56b0
                                   try clear c57
                                   try clear c59
                                   try clear hcz10_0
                                   try clear hcz10_1
                                   try clear hcz10_2
                                   try clear hcz14_0
                                   try clear hcz14_1
                                   try clear hcz14_2
                                   try clear hcz17_0
                                   try clear hcz17_1
                                   try clear hcz17_2
                                   try clear hcz21_0
                                   try clear hcz21_1
                                   try clear hcz21_2
                                   try clear hcz24_0
                                   try clear hcz24_1
                                   try clear hcz24_2
                                   try clear hcz44_0
                                   try clear hcz44_1
                                   try clear hcz44_2
                                   try clear hcz53_0
                                   try clear hcz53_1
                                   try clear hcz53_2
                                   try clear hcz58_0
                                   try clear hcz58_1
                                   try clear hcz58_2
                                   try clear hcz60_0
                                   try clear hcz60_1
                                   try clear hcz60_2
                                   try clear hfz10_0
                                   try clear hfz10_1
                                   try clear hfz10_2
                                   try clear hfz14_0
                                   try clear hfz14_1
                                   try clear hfz14_2
                                   try clear hfz17_0
                                   try clear hfz17_1
                                   try clear hfz17_2
                                   try clear hfz21_0
                                   try clear hfz21_1
                                   try clear hfz21_2
                                   try clear hfz24_0
                                   try clear hfz24_1
                                   try clear hfz24_2
                                   try clear hfz44_0
                                   try clear hfz44_1
                                   try clear hfz44_2
                                   try clear hfz53_0
                                   try clear hfz53_1
                                   try clear hfz53_2
                                   try clear hfz58_0
                                   try clear hfz58_1
                                   try clear hfz58_2
                                   try clear hfz60_0
                                   try clear hfz60_1
                                   try clear hfz60_2
                                   try clear hx113_0
                                   try clear hx124_0
                                   try clear hx124_1
                                   try clear hx125_0
                                   try clear hx127_0
                                   try clear hx127_1
                                   try clear hx131_0
                                   try clear hx132_0
                                   try clear hx133_0
                                   try clear hx19_0
                                   try clear p1
                                   try clear p11
                                   try clear p113
                                   try clear p12
                                   try clear p124
                                   try clear p125
                                   try clear p127
                                   try clear p131
                                   try clear p132
                                   try clear p133
                                   try clear p19
                                   try clear p2
                                   try clear p6
                                   try clear q1
                                   try clear q11
                                   try clear q113
                                   try clear q12
                                   try clear q124
                                   try clear q125
                                   try clear q127
                                   try clear q131
                                   try clear q132
                                   try clear q133
                                   try clear q19
                                   try clear q3
                                   try clear q39
                                   obtain ⟨kq, x94_47, rfl, HA, HJ47, HO_6, HO_8, HO_11, BK101, BK102, HB⟩ := hcut
                                   cases kq with
                                   | zero => exact absurd HA.out (by simp [Qat.j3])
                                   | succ kj47 =>
                                     have H := HA.out
                                     clear HA
                                     simp only [Qat.j3] at H
                                     by_cases c61 : x94_47 = true
                                     · subst c61
                                       have H1 : (some (x6_3, false)) = some (r1, r2) := by rw [if_pos rfl] at H; exact H
                                       clear H
                                       have H := H1
                                       clear H1
                                       simp only [Option.some.injEq, Prod.mk.injEq] at H
                                       obtain ⟨rfl, rfl⟩ := H
                                       go_wp2
                                       go_ret2
                                       exact ⟨_, by first | rfl | (simp [Qan, Qao] <;> rfl) | (simp [*, Qan, Qao] <;> rfl), by (refine QaP ?_); exact Kd.R_mono HO_6.out (fun _ hk => trivial), bw_⟩
                                     · replace c61 := Bool.eq_false_iff.mpr c61
                                       subst c61
                                       have H1 : (if 0 ≤ (rd t128 x12_3) then (if (rd t128 x12_3) < (x6_3.length : Int) then (if (rd x6_3 (rd t128 x12_3)) < 0 then (if x8_3.length < 17592186044416 then (Qat.l2 kj47 (x6_3.set ((rd t128 x12_3) : Int).toNat t126) (x8_3 ++ [(rd t128 x12_3)]) t126 t128 (wrap64 (x12_3 + 1)) l0_0 a1_0 a1_1 l1_2) else (none)) else (Qat.l2 kj47 x6_3 x8_3 t126 t128 (wrap64 (x12_3 + 1)) l0_0 a1_0 a1_1 l1_2)) else (none)) else (none)) = some (r1, r2) := by rw [if_neg (show ¬ (false = true) by decide)] at H; exact H
                                       clear H
                                       have H := H1
                                       clear H1
                                       by_cases c62 : 0 ≤ (rd t128 x12_3)
                                       · rw [if_pos c62] at H
                                         have c62b0 : decide (0 ≤ (rd t128 x12_3)) = true := decide_eq_true c62
                                         clear c62
                                         by_cases c63 : (rd t128 x12_3) < (x6_3.length : Int)
                                         · rw [if_pos c63] at H
                                           have c63b0 : decide ((rd t128 x12_3) < (x6_3.length : Int)) = true := decide_eq_true c63
                                           clear c63
                                           by_cases c64 : (rd x6_3 (rd t128 x12_3)) < 0
                                           · rw [if_pos c64] at H
                                             have c64b0 : decide ((rd x6_3 (rd t128 x12_3)) < 0) = true := decide_eq_true c64
                                             clear c64
                                             obtain ⟨y135, hy135⟩ : ∃ y_ : List Int, y_ = (x6_3.set ((rd t128 x12_3) : Int).toNat t126) := ⟨_, rfl⟩
                                             replace H : (if x8_3.length < 17592186044416 then (Qat.l2 kj47 y135 (x8_3 ++ [(rd t128 x12_3)]) t126 t128 (wrap64 (x12_3 + 1)) l0_0 a1_0 a1_1 l1_2) else (none)) = some (r1, r2) := by first | (rw [hy135]; with_reducible exact H) | (have H2_ := (Option.bind_some _ _).symm.trans H; rw [hy135]; with_reducible exact H2_) | (have H2_ := (Option.bind_some _ _).symm.trans H; with_reducible exact H2_) | with_reducible exact H | (rw [hy135]; exact H) | exact H
                                             have Ny135 := Aside0.mk hy135
                                             clear hy135
                                             by_cases c66 : x8_3.length < 17592186044416
                                             · rw [if_pos c66] at H
                                               have LMc66 := Aside0.mk c66
                                               clear c66
                                               obtain ⟨y136, hy136⟩ : ∃ y_ : List Int, y_ = (x8_3 ++ [(rd t128 x12_3)]) := ⟨_, rfl⟩
                                               replace H : (Qat.l2 kj47 y135 y136 t126 t128 (wrap64 (x12_3 + 1)) l0_0 a1_0 a1_1 l1_2) = some (r1, r2) := by first | (rw [hy136]; with_reducible exact H) | (have H2_ := (Option.bind_some _ _).symm.trans H; rw [hy136]; with_reducible exact H2_) | (have H2_ := (Option.bind_some _ _).symm.trans H; with_reducible exact H2_) | with_reducible exact H | (rw [hy136]; exact H) | exact H
                                               have Ny136 := Aside0.mk hy136
                                               clear hy136
                                               have H' := Aside0.mk H
                                               clear H
                                               have p134 : 0 ≤ ((rd t128 x12_3) : Int) := of_decide_eq_true (by first | (with_reducible assumption) | assumption)
                                               have q134 : (rd t128 x12_3) < (x6_3.length : Int) := of_decide_eq_true (by first | (with_reducible assumption) | assumption)
                                               obtain ⟨ad134, e134, hx134_0⟩ := Kd.at_int (Kd.R_reads' HO_6.out).2.2 (rd t128 x12_3) p134 q134
                                               obtain rfl : (⟨go19, 0, none⟩ : Addr) = ad134 := (by injection e134)
                                               (first | simp only [Qbn] at hx134_0 | simp only [Qb1] at hx134_0 | simp only [Addr.add, Nat.zero_add] at hx134_0 | skip)
                                               replace p134 := eq_true p134
                                               replace q134 := eq_true q134
                                               have p65 : 0 ≤ ((rd t128 x12_3) : Int) := of_decide_eq_true (by first | (with_reducible assumption) | assumption)
                                               have q65 : ((rd t128 x12_3) : Int) < ((x6_3.length : Int) : Int) := of_decide_eq_true (by first | (with_reducible assumption) | assumption)
                                               obtain ⟨hx65_0, hf65_0⟩ := Kd.R_celln 0 HO_6.out ((rd t128 x12_3) : Int) p65 q65
                                               replace p65 := eq_true p65
                                               replace q65 := eq_true q65
                                               have HP67 := Kd.R_putg HO_6.out ((rd t128 x12_3) : Int) t126
                                               go_wp2_with (first | ((with_reducible refine Qcb (t := 3) (p := 104) rfl ?_); refine Qb3 (t := 3) (p := 104) (v := ?vo_w68) (w1 := (wc.setCell ⟨go19, ((rd t128 x12_3) : Int).toNat, none⟩ (.int .i64 t126))) ?hg ?ho ?hn ?hr ?_; (case ho => rfl); (case hg => rfl); (case hn => rfl); (case hr => first | (go_simp; done) | (go_simp; rfl)); intro w68 hw; have hg : wc.grownBy w68 (some go19) := (by rw [hw]; exact HP67.2); have hp_ : Kd.R (Kd.int .i64) 3 w68 w.heap.size (fun k_ => some k_ ≠ (u8 : Value).ownBlock ∧ some k_ ≠ (.slice (some ad131) t128.length co49 : Value).ownBlock) (.slice (some ⟨go19, 0, none⟩) x6_3.length co19) y135 := (by rw [hw, Ny135.out]; exact HP67.1); clear HP67; have n0_ := Aside0.mk (hp_); have n1_ := Aside0.mk (Kd.R_after (v := (.slice (some ⟨go19, 0, none⟩) x6_3.length co19)) (v1 := (.slice (some ⟨go19, 0, none⟩) x6_3.length co19)) (ok := (fun k_ => some k_ ≠ (.slice (some ad131) t128.length co49 : Value).ownBlock)) (by (refine QaP ?_); exact Kd.R_mono HO_8.out (fun _ hk => ⟨hk.2, hk.1⟩)) hg (.inl rfl)); have n2_ := Aside0.mk (Kd.R_after (v := (.slice (some ⟨go19, 0, none⟩) x6_3.length co19)) (v1 := (.slice (some ⟨go19, 0, none⟩) x6_3.length co19)) (ok := (fun k_ => some k_ ≠ (u8 : Value).ownBlock)) (by (refine QaP ?_); exact Kd.R_mono HO_11.out (fun _ hk => ⟨hk.2, hk.1⟩)) hg (.inl rfl)); have n3_ := Aside0.mk (QaU (g := gb101) (o := .cells #[.slice A0_0 l0_0.length c0_0] 25 (0, 0)) (by (refine kb_ ?_); exact BK101.out) hg (Kd.R_ne HO_6.out BK101.out (by decide))); have n4_ := Aside0.mk (QaU (g := gb102) (o := .cells #[.int .i64 a1_0, .int .i64 a1_1, .slice (some ad124) l1_2.length c1_2] 34 (0, 0)) (by (refine kb_ ?_); exact BK102.out) hg (Kd.R_ne HO_6.out BK102.out (by decide))); have n5_ := Aside0.mk ((by rw [hw]; exact Qaw (HB.out) GB19.out : Below w.heap.size w w68)); clear HO_6; clear HO_8; clear HO_11; clear BK101; clear BK102; clear HB; have HO_6 := n0_; have HO_8 := n1_; have HO_11 := n2_; have BK101 := n3_; have BK102 := n4_; have HB := n5_; clear n0_ n1_ n2_ n3_ n4_ n5_; clear hg hw hp_) | ((with_reducible refine QaW (b := .append) (xs := #[.tmp 105, .tmp 107]) rfl ?_); (try (refine Qa8 (by rfl) ?_; dsimp only)); at_builtin; refine Kd.R_append (Kd.int .i64) (w0 := w) w.heap.size rfl (.tmp 105) (.tmp 107) 28 3 (.int .i64 0) 8 rfl Try.underlying28 info3 rfl (by decide) (by omega) u8 x8_3 (rd t128 x12_3) [.int .i64 (rd t128 x12_3)] (fun k_ => some k_ ≠ (.slice (some ⟨go19, 0, none⟩) x6_3.length co19 : Value).ownBlock ∧ some k_ ≠ (.slice (some ad131) t128.length co49 : Value).ownBlock) (fun _ => False) rfl rfl ?aP (fun _ hk => hk.elim) ?aF ?aO ?aB ?aS ?aL ?_; (case aP => exact rfl); (case aB => exact (bw_)); (case aF => exact (fun k_ hk => ⟨Kd.fresh' (Kd.R_lt (by (refine QaP ?_); exact HO_6.out)) k_ hk, Kd.fresh' (Kd.R_lt (by (refine QaP ?_); exact HO_11.out)) k_ hk⟩)); (case aO => exact (by (refine QaP ?_); exact Kd.R_mono HO_8.out (fun _ hk => ⟨hk.2, hk.1⟩))); (case aS => exact (QaY (bw_))); (case aL => have := LMc66.out; omega); intro v137 w69 ho hb hg hat; rw [← Ny136.out] at ho; have n0_ := Aside0.mk (Kd.R_after (ok := (fun k_ => some k_ ≠ (.slice (some ad131) t128.length co49 : Value).ownBlock)) (by (refine QaP ?_); exact Kd.R_mono HO_6.out (fun _ hk => ⟨hk.2, hk.1⟩)) hg hat); have n1_ := Aside0.mk (Kd.R_after (ok := (fun k_ => some k_ ≠ (.slice (some ⟨go19, 0, none⟩) x6_3.length co19 : Value).ownBlock)) (by (refine QaP ?_); exact Kd.R_mono HO_11.out (fun _ hk => ⟨hk.2, hk.1⟩)) hg hat); have n2_ := Aside0.mk (QaU (g := gb101) (o := .cells #[.slice A0_0 l0_0.length c0_0] 25 (0, 0)) (by (refine kb_ ?_); exact BK101.out) hg (Kd.R_ne HO_8.out BK101.out (by decide))); have n3_ := Aside0.mk (QaU (g := gb102) (o := .cells #[.int .i64 a1_0, .int .i64 a1_1, .slice (some ad124) l1_2.length c1_2] 34 (0, 0)) (by (refine kb_ ?_); exact BK102.out) hg (Kd.R_ne HO_8.out BK102.out (by decide))); have n4_ := Aside0.mk (hb); have n5_ := Aside0.mk (ho); clear HO_6; clear HO_11; clear BK101; clear BK102; clear HB; clear HO_8; have HO_6 := n0_; have HO_11 := n1_; have BK101 := n2_; have BK102 := n3_; have HB := n4_; have HO138 := n5_; clear n0_ n1_ n2_ n3_ n4_ n5_; clear ho hb hg hat))
                                               (try simp only [← hl6_3])
                                               go_roundg kj47
                                               case measure => have := HK1.out; have := HK2.out; have := HK3.out; have := HJ47.out; omega
                                               case rel => exact ⟨(y135), (y136), (wrap64 (x12_3 + 1)), (by first | rfl | (simp; done) | (simp [*]; done)), H', ⟨by have := HK1.out; have := HK2.out; have := HK3.out; have := HJ47.out; omega⟩, ⟨by (try simp only [hl6_2]); (try simp only [hl6_3]); (refine QaP ?_); exact Kd.R_mono HO_6.out (fun _ hk => ⟨hk.2, hk.1⟩)⟩, ⟨by (try simp only [hl6_2]); (try simp only [hl6_3]); (refine QaP ?_); exact HO138.out⟩, ⟨by (try simp only [hl6_2]); (try simp only [hl6_3]); (refine QaP ?_); exact HO_11.out⟩, ⟨by (try simp only [hl6_2]); (try simp only [hl6_3]); (refine kb_ ?_); exact BK101.out⟩, ⟨by (try simp only [hl6_2]); (try simp only [hl6_3]); (refine kb_ ?_); exact BK102.out⟩, ⟨bw_⟩⟩
                                             · rw [if_neg c66] at H
                                               exact absurd H (by simp)
                                           · rw [if_neg c64] at H
                                             have c64b0 : decide ((rd x6_3 (rd t128 x12_3)) < 0) = false := decide_eq_false c64
                                             clear c64
                                             have H' := Aside0.mk H
                                             clear H
                                             have p134 : 0 ≤ ((rd t128 x12_3) : Int) := of_decide_eq_true (by first | (with_reducible assumption) | assumption)
                                             have q134 : (rd t128 x12_3) < (x6_3.length : Int) := of_decide_eq_true (by first | (with_reducible assumption) | assumption)
                                             obtain ⟨ad134, e134, hx134_0⟩ := Kd.at_int (Kd.R_reads' HO_6.out).2.2 (rd t128 x12_3) p134 q134
                                             obtain rfl : (⟨go19, 0, none⟩ : Addr) = ad134 := (by injection e134)
                                             (first | simp only [Qbn] at hx134_0 | simp only [Qb1] at hx134_0 | simp only [Addr.add, Nat.zero_add] at hx134_0 | skip)
                                             replace p134 := eq_true p134
                                             replace q134 := eq_true q134
                                             go_wp2
                                             (try simp only [← hl6_3])
                                             go_roundg kj47
                                             case measure => have := HK1.out; have := HK2.out; have := HK3.out; have := HJ47.out; omega
                                             case rel => exact ⟨(x6_3), (x8_3), (wrap64 (x12_3 + 1)), (by first | rfl | (simp; done) | (simp [*]; done)), H', ⟨by have := HK1.out; have := HK2.out; have := HK3.out; have := HJ47.out; omega⟩, ⟨by (try simp only [hl6_2]); (try simp only [hl6_3]); (refine QaP ?_); exact HO_6.out⟩, ⟨by (try simp only [hl6_2]); (try simp only [hl6_3]); (refine QaP ?_); exact HO_8.out⟩, ⟨by (try simp only [hl6_2]); (try simp only [hl6_3]); (refine QaP ?_); exact HO_11.out⟩, ⟨by (try simp only [hl6_2]); (try simp only [hl6_3]); (refine kb_ ?_); exact BK101.out⟩, ⟨by (try simp only [hl6_2]); (try simp only [hl6_3]); (refine kb_ ?_); exact BK102.out⟩, ⟨bw_⟩⟩
                                         · rw [if_neg c63] at H
                                           exact absurd H (by simp)
                                       · rw [if_neg c62] at H
                                         exact absurd H (by simp)
                                · rw [if_neg c47] at H
                                  exact absurd H (by simp)
                              · rw [if_neg c46] at H
                                have c46b0 : decide (x12_3 < (t128.length : Int)) = false := decide_eq_false c46
                                clear c46
                                by_cases c70 : t126 < 0
                                · rw [if_pos c70] at H
                                  have c70b0 : decide (t126 < 0) = true := decide_eq_true c70
                                  clear c70
                                  simp only [Option.some.injEq, Prod.mk.injEq] at H
                                  obtain ⟨rfl, rfl⟩ := H
                                  obtain ⟨Ao71, co71, eo71⟩ := Kd.R_slice HO_11.out
                                  subst eo71
                                  go_wp2
                                  go_ret2
                                  exact ⟨_, by first | rfl | (simp [Qan, Qao] <;> rfl) | (simp [*, Qan, Qao] <;> rfl), by (refine QaP ?_); exact Kd.R_mono HO_6.out (fun _ hk => trivial), bw_⟩
                                · rw [if_neg c70] at H
                                  have c70b0 : decide (t126 < 0) = false := decide_eq_false c70
                                  clear c70
                                  have H' := Aside0.mk H
                                  clear H
                                  obtain ⟨Ao72, co72, eo72⟩ := Kd.R_slice HO_11.out
                                  subst eo72
                                  go_wp2
                                  (try simp only [← hl6_2, ← hl6_3])
                                  go_roundg k3
                                  case measure => have := HK1.out; have := HK2.out; have := HK3.out; omega
                                  case rel => exact ⟨(x6_3), (x8_3), H', ⟨by have := HK1.out; have := HK2.out; have := HK3.out; omega⟩, ⟨by (try simp only [hl6_2]); (try simp only [hl6_3]); (refine QaP ?_); exact Kd.R_mono HO_6.out (fun _ hk => hk.1)⟩, ⟨by (try simp only [hl6_2]); (try simp only [hl6_3]); (refine QaP ?_); exact Kd.R_mono HO_8.out (fun _ hk => hk.1)⟩, ⟨by (try simp only [hl6_2]); (try simp only [hl6_3]); (refine kb_ ?_); exact BK101.out⟩, ⟨by (try simp only [hl6_2]); (try simp only [hl6_3]); (refine kb_ ?_); exact BK102.out⟩, ⟨bw_⟩⟩
                         · rw [if_neg c33] at H
                           exact absurd H (by simp)
                       · rw [if_neg c32] at H
                         exact absurd H (by simp)
                     · rw [if_neg c31] at H
                       exact absurd H (by simp)
                   · rw [if_neg c30] at H
                     exact absurd H (by simp)
                 · rw [if_neg c29] at H
                   exact absurd H (by simp)
               · rw [if_neg c28] at H
                 exact absurd H (by simp)
             · rw [if_neg c27] at H
               have c27b0 : decide (0 < (x8_2.length : Int)) = false := decide_eq_false c27
               have c27b1 : decide (0 < x8_2.length) = false := decide_eq_false (by omega)
               clear c27
               simp only [Option.some.injEq, Prod.mk.injEq] at H
               obtain ⟨rfl, rfl⟩ := H
               obtain ⟨Ao73, co73, eo73⟩ := Kd.R_slice HO_8.out
               subst eo73
               go_wp2
               go_ret2
               exact ⟨_, by first | rfl | (simp [Qan, Qao] <;> rfl) | (simp [*, Qan, Qao] <;> rfl), by (refine QaP ?_); exact Kd.R_mono HO_6.out (fun _ hk => trivial), bw_⟩
        · rw [if_neg c18] at H
          exact absurd H (by simp)
end Go.Proofs.Ytabcijheemjplaa.G
namespace Go.Proofs.Ytabcijheemjplaa.G
open Go.RowKit Go.Proofs.YtabcijheemjplaaW.PrintWords Go.Proofs.YtabcijheemjplaaW.PrintLast Go.Proofs.YtabcijheemjplaaW.PrintMore
attribute [local go_sem] QaQ QaR Qa3 Qa4 QaJ QaK QaS QaT
set_option linter.unusedVariables false
set_option linter.unusedSimpArgs false
def QaF.j0 : Nat → Int → Bool → List (Qae) → Option (List Int × Bool)
 | 0, _, _, _ => none
 | k + 1, x1, x19, x102000 => if x19 = true then (some ((([] : List Int)), false)) else (if 0 ≤ x1 then (if x1 < (x102000.length : Int) then ((Qat.f k x102000 ((Qaa x102000 x1).f0) ((Qaa x102000 x1).f1) ((Qaa x102000 x1).f2)).bind fun bt108 => (if bt108.2 = true then (some (bt108.1, true)) else (some ((([] : List Int)), false)))) else (none)) else (none))
def QaF.f (k : Nat) (l0_0 : List (Qae)) (a1 : Int) : Option (List Int × Bool) := (Qaz.f k l0_0).bind fun t102 => (if t102 = true then ((QaM.f a1 0 (wrap64 ((l0_0.length : Int) - 1))).bind fun t103 => (QaF.j0 k a1 (!t103) l0_0)) else (QaF.j0 k a1 true l0_0))
theorem QaF.mono_l : ∀ k, (∀ y0 y1 y2, LeO (QaF.j0 k y0 y1 y2) (QaF.j0 (k + 1) y0 y1 y2))
 | 0 => fun _ _ _ r h => by simp [QaF.j0] at h
 | k + 1 => by
   have ih0 := QaF.mono_l k
   · intro y0 y1 y2
     unfold QaF.j0
     repeat' first
     | (with_reducible exact ih0 _ _ _)
     | (with_reducible exact Qaz.mono _ _)
     | (with_reducible exact Qat.mono _ _ _ _ _)
     | (with_reducible exact LeO.refl _)
     | (with_reducible exact LeO.none _)
     | (with_reducible refine LeO.ite ?_ ?_)
     | (with_reducible refine LeO.bind ?_ (fun _ => ?_))
     | exact ih0 _ _ _
     | exact Qaz.mono _ _
     | exact Qat.mono _ _ _ _ _
     | exact LeO.none _
     | refine LeO.ite ?_ ?_
     | refine LeO.bind ?_ (fun _ => ?_)
theorem QaF.mono : ∀ a0 a1 k, LeO (QaF.f k a0 a1) (QaF.f (k + 1) a0 a1) := by
 intro a0 a1 k
 have ih0 := QaF.mono_l k
 unfold QaF.f
 repeat' first
  | (with_reducible exact ih0 _ _ _)
  | (with_reducible exact Qaz.mono _ _)
  | (with_reducible exact Qat.mono _ _ _ _ _)
  | (with_reducible exact LeO.refl _)
  | (with_reducible exact LeO.none _)
  | (with_reducible refine LeO.ite ?_ ?_)
  | (with_reducible refine LeO.bind ?_ (fun _ => ?_))
  | exact ih0 _ _ _
  | exact Qaz.mono _ _
  | exact Qat.mono _ _ _ _ _
  | exact LeO.none _
  | refine LeO.ite ?_ ?_
  | refine LeO.bind ?_ (fun _ => ?_)
def QaF.T3 : Bool × List (List Nat × List Nat) := (true, [([], []), ([], []), ([1], [1]), ([], []), ([2, 3], [2, 3]), ([4], [4]), ([0, 5], [0, 5]), ([6], [6]), ([7], [7]), ([7], [7]), ([8, 6, 0, 1, 2, 3, 4, 5, 6, 7, 8], [8]), ([9, 10, 0, 1, 2, 3, 4, 5, 6, 7, 8, 9, 10], [9])])
def QaF.B3 : List Nat := [0, 0, 2, 0, 14, 30, 63, 127, 255, 255, 511, 2047]
theorem QaF.tab3 : rtab .any (opsOf Try.f16 3) = QaF.T3 := by kernel_rfl
theorem QaF.bits3 : QbZ QaF.T3.2 QaF.B3 = true := by kernel_rfl
set_option maxHeartbeats 8000000 in
set_option maxRecDepth 100000 in
theorem QaF.calls (k : Nat) (A0_0 : Option Addr) (c0_0 : Nat) (l0_0 : List (Qae)) (a1 : Int) (r1 : List Int) (r2 : Bool) (w : World) (hr0_0 : Kd.C QaD w A0_0 l0_0.length l0_0) (hc0_0 : l0_0.length ≤ c0_0) (h : QaF.f k l0_0 a1 = some (r1, r2)) :
 Calls Try.prog 16 #[.agg #[.slice A0_0 l0_0.length c0_0], .int .i64 a1] w fun e w' => ∃ v0_ : Value, e = .returned (.tuple #[v0_, .bool r2]) ∧ Kd.R (Kd.int .i64) 3 w' w.heap.size (fun _ => True) v0_ r1 ∧ Below w.heap.size w w' := by
 have hu25 := Try.underlying25
 have hu34 := Try.underlying34
 have HR0_0 := Aside0.mk hr0_0
 have HC0_0 := Aside0.mk hc0_0
 clear hr0_0 hc0_0
 have HB := Aside0.mk (Below.refl w.heap.size w)
 have H : ((Qaz.f k l0_0).bind fun t102 => (if t102 = true then ((QaM.f a1 0 (wrap64 ((l0_0.length : Int) - 1))).bind fun t103 => (QaF.j0 k a1 (!t103) l0_0)) else (QaF.j0 k a1 true l0_0))) = some (r1, r2) := h
 clear h
 have HC3 := Aside0.mk H
 clear H
 go_enter Try.func16, Try.ntmps16
 go_upto_region 1 with (first | ((with_reducible refine QaH (N := 2) rfl ?_); (try (refine Qa8 (by rfl) ?_; dsimp only)); refine QaN ?hg (N := 2) ?hd (cs := #[.slice A0_0 l0_0.length c0_0]) (t := 25) ?hr ?_; (case hd => rfl); (case hg => rfl); (case hr => first | (go_simp; done) | (go_simp; rfl)); intro gb101 hg w4 hbox hb; have n0_ := Aside0.mk (Qap (bw_) hb); have n1_ := Aside0.mk (hbox); have n2_ := Aside0.mk ((gs_ hg bw_ : w.heap.size ≤ gb101)); have n3_ := Aside0.mk ((gs_ hg bw_ : w.heap.size ≤ gb101)); clear HB; have HB := n0_; have BK101 := n1_; have GW101 := n2_; have GE101 := n3_; clear n0_ n1_ n2_ n3_; clear hb hbox hg))
 (try simp only [Act.put, List.setIfInBounds_toArray, List.set_cons_zero, List.set_cons_succ])
 go_cut [19] (fun v19 wc => ∃ (kq : Nat) (x19_2 : Bool), v19 = .bool x19_2 ∧ Aside0 (QaF.j0 kq a1 x19_2 l0_0 = some (r1, r2)) ∧ Aside0 (kq ≤ k) ∧ Aside0 (wc.heap[gb101]? = some (.cells #[(.slice A0_0 l0_0.length c0_0)] 25 (0, 0))) ∧ Aside0 (Below w.heap.size w wc))
 case first =>
  have H := HC3.out
  clear HC3
  replace H := Option.bind_eq_some_iff.mp H
  obtain ⟨t102, A50, H⟩ := H
  replace H : (if t102 = true then ((QaM.f a1 0 (wrap64 ((l0_0.length : Int) - 1))).bind fun t103 => (QaF.j0 k a1 (!t103) l0_0)) else (QaF.j0 k a1 true l0_0)) = some (r1, r2) := H
  have A5 := Aside0.mk A50
  clear A50
  by_cases c6 : t102 = true
  · subst c6
    have H1 : ((QaM.f a1 0 (wrap64 ((l0_0.length : Int) - 1))).bind fun t103 => (QaF.j0 k a1 (!t103) l0_0)) = some (r1, r2) := by rw [if_pos rfl] at H; exact H
    clear H
    have H := H1
    clear H1
    replace H := Option.bind_eq_some_iff.mp H
    obtain ⟨t103, A70, H⟩ := H
    replace H : (QaF.j0 k a1 (!t103) l0_0) = some (r1, r2) := H
    have A7 := Aside0.mk A70
    clear A70
    have H' := Aside0.mk H
    clear H
    have hcz8_0 : w4.cell? ⟨gb101, 0, none⟩ = some (.slice A0_0 l0_0.length c0_0) := (Qaf BK101.out 0).trans rfl
    have hfz8_0 := Qaj BK101.out 0
    go_wp2_with (first | ((with_reducible refine Qax (f := 57) rfl ?_); refine QaX (some 9) rfl rfl Try.func57 (by kernel_rfl) rfl #[.agg #[.slice A0_0 l0_0.length c0_0]] rfl (by (try simp only [List.map_toArray, List.map_cons, List.map_nil]); first | done | rfl | (simp only [List.length_drop, List.length_take]; rfl)) ?_; (with_reducible refine (Qaz.calls k _ _ l0_0 true _ ?side1 ?side2 A5.out).mono ?_); (case side1 => exact cb_); (case side2 => exact HC0_0.out); rintro e w9 ⟨rfl, hb⟩; refine ⟨_, rfl, ?_⟩; have n0_ := Aside0.mk (bb_ BK101 hb); have n1_ := Aside0.mk (Qap (bw_) hb); clear BK101; clear HB; have BK101 := n0_; have HB := n1_; clear n0_ n1_; (try clear hb); (try clear hb2); (try clear hk); (try clear hi); obtain ⟨hcz10_0, hfz10_0⟩ := blkF1_ BK101.out) | (go_at_call 58; (with_reducible refine (QaM.calls a1 0 (wrap64 ((l0_0.length : Int) - 1)) t103 _ A7.out).mono ?_); rintro e w' ⟨rfl, ⟨nd, rfl⟩⟩))
    go_meet
    case rel => exact ⟨_, (!t103), (by first | rfl | (simp; done) | (simp [*]; done)), H', ⟨by first | omega | exact Nat.le_refl _⟩, ⟨by (refine kb_ ?_); exact BK101.out⟩, ⟨bw_⟩⟩
  · replace c6 := Bool.eq_false_iff.mpr c6
    subst c6
    have H1 : (QaF.j0 k a1 true l0_0) = some (r1, r2) := by rw [if_neg (show ¬ (false = true) by decide)] at H; exact H
    clear H
    have H := H1
    clear H1
    have H' := Aside0.mk H
    clear H
    have hcz11_0 : w4.cell? ⟨gb101, 0, none⟩ = some (.slice A0_0 l0_0.length c0_0) := (Qaf BK101.out 0).trans rfl
    have hfz11_0 := Qaj BK101.out 0
    go_wp2_with (first | ((with_reducible refine Qax (f := 57) rfl ?_); refine QaX (some 9) rfl rfl Try.func57 (by kernel_rfl) rfl #[.agg #[.slice A0_0 l0_0.length c0_0]] rfl (by (try simp only [List.map_toArray, List.map_cons, List.map_nil]); first | done | rfl | (simp only [List.length_drop, List.length_take]; rfl)) ?_; (with_reducible refine (Qaz.calls k _ _ l0_0 false _ ?side1 ?side2 A5.out).mono ?_); (case side1 => exact cb_); (case side2 => exact HC0_0.out); rintro e w12 ⟨rfl, hb⟩; refine ⟨_, rfl, ?_⟩; have n0_ := Aside0.mk (bb_ BK101 hb); have n1_ := Aside0.mk (Qap (bw_) hb); clear BK101; clear HB; have BK101 := n0_; have HB := n1_; clear n0_ n1_; (try clear hb); (try clear hb2); (try clear hk); (try clear hi)))
    go_meet
    case rel => exact ⟨_, (true), (by first | rfl | (simp; done) | (simp [*]; done)), H', ⟨by first | omega | exact Nat.le_refl _⟩, ⟨by (refine kb_ ?_); exact BK101.out⟩, ⟨bw_⟩⟩
 case rest =>
  clear HC3
  try clear c1
  try clear p2
  try clear c5
  try clear c6
  try clear p6
  try clear hcz10_0
  try clear hcz11_0
  try clear hcz8_0
  try clear hfz10_0
  try clear hfz11_0
  try clear hfz8_0
  obtain ⟨kq, x19_2, rfl, HA, HJ2, BK101, HB⟩ := hcut
  cases kq with
  | zero => exact absurd HA.out (by simp [QaF.j0])
  | succ kj2 =>
    have H := HA.out
    clear HA
    simp only [QaF.j0] at H
    by_cases c13 : x19_2 = true
    · subst c13
      have H1 : (some ((([] : List Int)), false)) = some (r1, r2) := by rw [if_pos rfl] at H; exact H
      clear H
      have H := H1
      clear H1
      obtain ⟨y104, hy104⟩ : ∃ y_ : List Int, y_ = (([] : List Int)) := ⟨_, rfl⟩
      replace H : (some (y104, false)) = some (r1, r2) := by first | (rw [hy104]; with_reducible exact H) | (have H2_ := (Option.bind_some _ _).symm.trans H; rw [hy104]; with_reducible exact H2_) | (have H2_ := (Option.bind_some _ _).symm.trans H; with_reducible exact H2_) | with_reducible exact H | (rw [hy104]; exact H) | exact H
      have Ny104 := Aside0.mk hy104
      clear hy104
      simp only [Option.some.injEq, Prod.mk.injEq] at H
      obtain ⟨rfl, rfl⟩ := H
      go_wp2_with (first | ((with_reducible refine QaH (N := 20) rfl ?_); (try (refine Qa8 (by rfl) ?_; dsimp only)); refine Kd.R_lit (Kd.int .i64) _ 3 ?hg (N := 20) ?hd (xs := ([] : List Int)) (inner := []) (ok := fun _ => True) (okp := fun _ => True) ?hr ?hp (fun _ hk => hk) trivial (Below.refl _ _) (Nat.le_refl _) (by simp) ?_; (case hd => rfl); (case hg => rfl); (case hr => first | (go_simp; done) | (go_simp; rfl)); (case hp => exact (Qa9.none _ _)); intro v105 w14 ho15 hb hg_ hnew_; clear hg_ hnew_; (first | rw [← Ny104.out] at ho15 | (simp only [Int.reduceToNat] at ho15; rw [← Ny104.out] at ho15)); have n0_ := Aside0.mk (Kd.R_lower ho15 (QaY (bw_))); have n1_ := Aside0.mk (bb_ BK101 hb); have n2_ := Aside0.mk (Qap (bw_) hb); clear BK101; clear HB; have HO106 := n0_; have BK101 := n1_; have HB := n2_; clear n0_ n1_ n2_; clear hb ho15))
      go_ret2
      exact ⟨_, by first | rfl | (simp [Qan, Qao] <;> rfl) | (simp [*, Qan, Qao] <;> rfl), by (refine QaP ?_); exact HO106.out, bw_⟩
    · replace c13 := Bool.eq_false_iff.mpr c13
      subst c13
      have H1 : (if 0 ≤ a1 then (if a1 < (l0_0.length : Int) then ((Qat.f kj2 l0_0 ((Qaa l0_0 a1).f0) ((Qaa l0_0 a1).f1) ((Qaa l0_0 a1).f2)).bind fun bt108 => (if bt108.2 = true then (some (bt108.1, true)) else (some ((([] : List Int)), false)))) else (none)) else (none)) = some (r1, r2) := by rw [if_neg (show ¬ (false = true) by decide)] at H; exact H
      clear H
      have H := H1
      clear H1
      by_cases c16 : 0 ≤ a1
      · rw [if_pos c16] at H
        have c16b0 : decide (0 ≤ a1) = true := decide_eq_true c16
        clear c16
        by_cases c17 : a1 < (l0_0.length : Int)
        · rw [if_pos c17] at H
          have c17b0 : decide (a1 < (l0_0.length : Int)) = true := decide_eq_true c17
          clear c17
          replace H := Option.bind_eq_some_iff.mp H
          obtain ⟨⟨t108, t111⟩, A180, H⟩ := H
          replace H : (if t111 = true then (some (t108, true)) else (some ((([] : List Int)), false))) = some (r1, r2) := H
          have A18 := Aside0.mk A180
          clear A180
          by_cases c19 : t111 = true
          · subst c19
            have H1 : (some (t108, true)) = some (r1, r2) := by rw [if_pos rfl] at H; exact H
            clear H
            have H := H1
            clear H1
            simp only [Option.some.injEq, Prod.mk.injEq] at H
            obtain ⟨rfl, rfl⟩ := H
            try go_wp2
            have n0_ := Aside0.mk (Qbf BK101.out)
            have n1_ := Aside0.mk (Qav HB.out)
            clear BK101
            clear HB
            have BK101 := n0_
            have HB := n1_
            clear n0_ n1_
            have p107 : 0 ≤ (a1 : Int) := of_decide_eq_true (by first | (with_reducible assumption) | assumption)
            have q107 : a1 < (l0_0.length : Int) := of_decide_eq_true (by first | (with_reducible assumption) | assumption)
            obtain ⟨ad107, A107_2, c107_2, e107, hx107_0, hx107_1, hx107_2, hl107_2, hi107_2⟩ := Qba HR0_0.out a1 p107 q107
            have hw107_2 := hx107_2
            have hw107_1 := hx107_1
            have hw107_0 := hx107_0
            cases e107
            replace hx107_0 := pc_ HB hx107_0
            replace hx107_1 := pc_ HB hx107_1
            replace hx107_2 := pc_ HB hx107_2
            have HR107_2 := Aside0.mk hi107_2
            have HC107_2 := Aside0.mk hl107_2
            clear hi107_2 hl107_2
            replace p107 := eq_true p107
            replace q107 := eq_true q107
            refine Qch (n := 12) (S := fun w' => w'.cell? ⟨gb101, 0, none⟩ = some (.slice (some ad107) l0_0.length c0_0) ∧ w'.cell? (ad107.add ((a1).toNat * 3)) = some (.int .i64 ((Qaa l0_0 a1).f0)) ∧ w'.cell? ⟨(ad107.add ((a1).toNat * 3)).block, (ad107.add ((a1).toNat * 3)).off + 1, none⟩ = some (.int .i64 ((Qaa l0_0 a1).f1)) ∧ w'.cell? ⟨(ad107.add ((a1).toNat * 3)).block, (ad107.add ((a1).toNat * 3)).off + 2, none⟩ = some (.slice A107_2 ((Qaa l0_0 a1).f2).length c107_2)) (ds := []) #[false, false, false, false, false, false, false, false, false, false, false, false] (by kernel_rfl) rfl rfl ⟨(Qaf BK101.out 0).trans rfl, (pc_ HB hw107_0), (pc_ HB hw107_1), (pc_ HB hw107_2)⟩ (fun hHeld => ?_); refine Qby QaF.tab3 QaF.bits3 (fun HT_ HW_ => ?_)
            generalize wc.drew = w20 at BK101 HB HR107_2 hx107_0 hx107_1 hx107_2 hHeld ⊢
            refine pu_ 1 (some 23) #[false, true, false, false, false, false, false, false, false, false, false, false] rfl rfl ?_
            refine pu_ 3 (some 25) #[false, true, false, true, false, false, false, false, false, false, false, false] rfl rfl ?_
            refine tk_ 0 (some 22) #[true, true, false, true, false, false, false, false, false, false, false, false] rfl rfl hHeld ?_
            refine tk_ 2 (some 24) #[true, true, true, true, false, false, false, false, false, false, false, false] rfl rfl hHeld ?_
            refine pu_ 4 (some 26) #[true, true, true, true, true, false, false, false, false, false, false, false] rfl rfl ?_
            refine tk_ 5 (some 27) #[true, true, true, true, true, true, false, false, false, false, false, false] rfl rfl hHeld ?_
            refine one_ (i := 6) (N := some 28) #[true, true, true, true, true, true, true, false, false, false, false, false] rfl rfl (Qbw HT_.out (by kernel_rfl)) (by decide) (fun K hK => ?_)
            refine goes_ Try.func59 (by kernel_rfl) rfl #[.agg #[.slice (some ad107) l0_0.length c0_0], .agg #[.int .i64 ((Qaa l0_0 a1).f0), .int .i64 ((Qaa l0_0 a1).f1), .slice A107_2 ((Qaa l0_0 a1).f2).length c107_2]] (by rfl) rfl rfl (by (try simp only [List.map_toArray, List.map_cons, List.map_nil]); first | done | rfl | (simp only [List.length_drop, List.length_take]; rfl)) ?_
            with_reducible refine (Qat.calls kj2 _ _ l0_0 ((Qaa l0_0 a1).f0) ((Qaa l0_0 a1).f1) _ _ ((Qaa l0_0 a1).f2) t108 true _ ?side1 ?side2 ?side3 ?side4 A18.out).mono ?_
            (case side1 => exact cb_)
            (case side2 => exact HC0_0.out)
            (case side3 => exact cb_)
            (case side4 => exact HC107_2.out)
            rintro e w21 ⟨v109, rfl, ho0, hb⟩
            refine ⟨_, rfl, ?_⟩
            have n0_ := Aside0.mk (Kd.R_lower ho0 (QaY (bw_)))
            have n1_ := Aside0.mk (bb_ BK101 hb)
            have n2_ := Aside0.mk (Qap (bw_) hb)
            clear BK101
            clear HB
            have HO110 := n0_
            have BK101 := n1_
            have HB := n2_
            clear n0_ n1_ n2_
            (try clear hb)
            (try clear hb2)
            (try clear hk)
            (try clear hi)
            (try clear ho0)
            refine hK.out _ _ ⟨(Qaf BK101.out 0).trans rfl, (pc_ HB hw107_0), (pc_ HB hw107_1), (pc_ HB hw107_2)⟩ (fun hHeld => ?_)
            clear hK K
            refine Qbo (a' := ?_) ?_ ?_
            rotate_left
            · show Act.put _ (some 28) _ = _
              simp only [Act.put, List.setIfInBounds_toArray, List.set_cons_zero, List.set_cons_succ, Qbb, Qbd]
              rfl
            refine pu_ 7 (some 21) #[true, true, true, true, true, true, true, true, false, false, false, false] rfl rfl ?_
            refine pu_ 8 (some 29) #[true, true, true, true, true, true, true, true, true, false, false, false] rfl rfl ?_
            refine pu_ 9 (some 30) #[true, true, true, true, true, true, true, true, true, true, false, false] rfl rfl ?_
            refine pu_ 10 (some 6) #[true, true, true, true, true, true, true, true, true, true, true, false] rfl rfl ?_
            refine pu_ 11 (some 7) #[true, true, true, true, true, true, true, true, true, true, true, true] rfl rfl ?_
            refine done_ (QbY HT_.out (by kernel_rfl)) ?_
            try go_wp2
            go_ret2
            exact ⟨_, by first | rfl | (simp [Qan, Qao] <;> rfl) | (simp [*, Qan, Qao] <;> rfl), by (refine QaP ?_); exact HO110.out, bw_⟩
          · replace c19 := Bool.eq_false_iff.mpr c19
            subst c19
            have H1 : (some ((([] : List Int)), false)) = some (r1, r2) := by rw [if_neg (show ¬ (false = true) by decide)] at H; exact H
            clear H
            have H := H1
            clear H1
            obtain ⟨y112, hy112⟩ : ∃ y_ : List Int, y_ = (([] : List Int)) := ⟨_, rfl⟩
            replace H : (some (y112, false)) = some (r1, r2) := by first | (rw [hy112]; with_reducible exact H) | (have H2_ := (Option.bind_some _ _).symm.trans H; rw [hy112]; with_reducible exact H2_) | (have H2_ := (Option.bind_some _ _).symm.trans H; with_reducible exact H2_) | with_reducible exact H | (rw [hy112]; exact H) | exact H
            have Ny112 := Aside0.mk hy112
            clear hy112
            simp only [Option.some.injEq, Prod.mk.injEq] at H
            obtain ⟨rfl, rfl⟩ := H
            try go_wp2
            have n0_ := Aside0.mk (Qbf BK101.out)
            have n1_ := Aside0.mk (Qav HB.out)
            clear BK101
            clear HB
            have BK101 := n0_
            have HB := n1_
            clear n0_ n1_
            have p107 : 0 ≤ (a1 : Int) := of_decide_eq_true (by first | (with_reducible assumption) | assumption)
            have q107 : a1 < (l0_0.length : Int) := of_decide_eq_true (by first | (with_reducible assumption) | assumption)
            obtain ⟨ad107, A107_2, c107_2, e107, hx107_0, hx107_1, hx107_2, hl107_2, hi107_2⟩ := Qba HR0_0.out a1 p107 q107
            have hw107_2 := hx107_2
            have hw107_1 := hx107_1
            have hw107_0 := hx107_0
            cases e107
            replace hx107_0 := pc_ HB hx107_0
            replace hx107_1 := pc_ HB hx107_1
            replace hx107_2 := pc_ HB hx107_2
            have HR107_2 := Aside0.mk hi107_2
            have HC107_2 := Aside0.mk hl107_2
            clear hi107_2 hl107_2
            replace p107 := eq_true p107
            replace q107 := eq_true q107
            refine Qch (n := 12) (S := fun w' => w'.cell? ⟨gb101, 0, none⟩ = some (.slice (some ad107) l0_0.length c0_0) ∧ w'.cell? (ad107.add ((a1).toNat * 3)) = some (.int .i64 ((Qaa l0_0 a1).f0)) ∧ w'.cell? ⟨(ad107.add ((a1).toNat * 3)).block, (ad107.add ((a1).toNat * 3)).off + 1, none⟩ = some (.int .i64 ((Qaa l0_0 a1).f1)) ∧ w'.cell? ⟨(ad107.add ((a1).toNat * 3)).block, (ad107.add ((a1).toNat * 3)).off + 2, none⟩ = some (.slice A107_2 ((Qaa l0_0 a1).f2).length c107_2)) (ds := []) #[false, false, false, false, false, false, false, false, false, false, false, false] (by kernel_rfl) rfl rfl ⟨(Qaf BK101.out 0).trans rfl, (pc_ HB hw107_0), (pc_ HB hw107_1), (pc_ HB hw107_2)⟩ (fun hHeld => ?_); refine Qby QaF.tab3 QaF.bits3 (fun HT_ HW_ => ?_)
            generalize wc.drew = w22 at BK101 HB HR107_2 hx107_0 hx107_1 hx107_2 hHeld ⊢
            refine pu_ 1 (some 23) #[false, true, false, false, false, false, false, false, false, false, false, false] rfl rfl ?_
            refine pu_ 3 (some 25) #[false, true, false, true, false, false, false, false, false, false, false, false] rfl rfl ?_
            refine tk_ 0 (some 22) #[true, true, false, true, false, false, false, false, false, false, false, false] rfl rfl hHeld ?_
            refine tk_ 2 (some 24) #[true, true, true, true, false, false, false, false, false, false, false, false] rfl rfl hHeld ?_
            refine pu_ 4 (some 26) #[true, true, true, true, true, false, false, false, false, false, false, false] rfl rfl ?_
            refine tk_ 5 (some 27) #[true, true, true, true, true, true, false, false, false, false, false, false] rfl rfl hHeld ?_
            refine one_ (i := 6) (N := some 28) #[true, true, true, true, true, true, true, false, false, false, false, false] rfl rfl (Qbw HT_.out (by kernel_rfl)) (by decide) (fun K hK => ?_)
            refine goes_ Try.func59 (by kernel_rfl) rfl #[.agg #[.slice (some ad107) l0_0.length c0_0], .agg #[.int .i64 ((Qaa l0_0 a1).f0), .int .i64 ((Qaa l0_0 a1).f1), .slice A107_2 ((Qaa l0_0 a1).f2).length c107_2]] (by rfl) rfl rfl (by (try simp only [List.map_toArray, List.map_cons, List.map_nil]); first | done | rfl | (simp only [List.length_drop, List.length_take]; rfl)) ?_
            with_reducible refine (Qat.calls kj2 _ _ l0_0 ((Qaa l0_0 a1).f0) ((Qaa l0_0 a1).f1) _ _ ((Qaa l0_0 a1).f2) t108 false _ ?side1 ?side2 ?side3 ?side4 A18.out).mono ?_
            (case side1 => exact cb_)
            (case side2 => exact HC0_0.out)
            (case side3 => exact cb_)
            (case side4 => exact HC107_2.out)
            rintro e w23 ⟨v109, rfl, ho0, hb⟩
            refine ⟨_, rfl, ?_⟩
            have n0_ := Aside0.mk (Kd.R_lower ho0 (QaY (bw_)))
            have n1_ := Aside0.mk (bb_ BK101 hb)
            have n2_ := Aside0.mk (Qap (bw_) hb)
            clear BK101
            clear HB
            have HO110 := n0_
            have BK101 := n1_
            have HB := n2_
            clear n0_ n1_ n2_
            (try clear hb)
            (try clear hb2)
            (try clear hk)
            (try clear hi)
            (try clear ho0)
            refine hK.out _ _ ⟨(Qaf BK101.out 0).trans rfl, (pc_ HB hw107_0), (pc_ HB hw107_1), (pc_ HB hw107_2)⟩ (fun hHeld => ?_)
            clear hK K
            refine Qbo (a' := ?_) ?_ ?_
            rotate_left
            · show Act.put _ (some 28) _ = _
              simp only [Act.put, List.setIfInBounds_toArray, List.set_cons_zero, List.set_cons_succ, Qbb, Qbd]
              rfl
            refine pu_ 7 (some 21) #[true, true, true, true, true, true, true, true, false, false, false, false] rfl rfl ?_
            refine pu_ 8 (some 29) #[true, true, true, true, true, true, true, true, true, false, false, false] rfl rfl ?_
            refine pu_ 9 (some 30) #[true, true, true, true, true, true, true, true, true, true, false, false] rfl rfl ?_
            refine pu_ 10 (some 6) #[true, true, true, true, true, true, true, true, true, true, true, false] rfl rfl ?_
            refine pu_ 11 (some 7) #[true, true, true, true, true, true, true, true, true, true, true, true] rfl rfl ?_
            refine done_ (QbY HT_.out (by kernel_rfl)) ?_
            try go_wp2_with (first | ((with_reducible refine QaH (N := 33) rfl ?_); (try (refine Qa8 (by rfl) ?_; dsimp only)); refine Kd.R_lit (Kd.int .i64) _ 3 ?hg (N := 33) ?hd (xs := ([] : List Int)) (inner := []) (ok := fun _ => True) (okp := fun _ => True) ?hr ?hp (fun _ hk => hk) trivial (Below.refl _ _) (Nat.le_refl _) (by simp) ?_; (case hd => rfl); (case hg => rfl); (case hr => first | (go_simp; done) | (go_simp; rfl)); (case hp => exact (Qa9.none _ _)); intro v113 w24 ho25 hb hg_ hnew_; clear hg_ hnew_; (first | rw [← Ny112.out] at ho25 | (simp only [Int.reduceToNat] at ho25; rw [← Ny112.out] at ho25)); have n0_ := Aside0.mk (Kd.R_elder' (by (refine QaP ?_); exact HO110.out) (Kd.R_base ho25) hb); have n1_ := Aside0.mk (Kd.R_lower (Kd.R_new' ho25 (Kd.R_lt (by (refine QaP ?_); exact HO110.out))) (QaY (bw_))); have n2_ := Aside0.mk (bb_ BK101 hb); have n3_ := Aside0.mk (Qap (bw_) hb); clear HO110; clear BK101; clear HB; have HO110 := n0_; have HO114 := n1_; have BK101 := n2_; have HB := n3_; clear n0_ n1_ n2_ n3_; clear hb ho25))
            go_ret2
            exact ⟨_, by first | rfl | (simp [Qan, Qao] <;> rfl) | (simp [*, Qan, Qao] <;> rfl), by (refine QaP ?_); exact Kd.R_mono HO114.out (fun _ hk => trivial), bw_⟩
        · rw [if_neg c17] at H
          exact absurd H (by simp)
      · rw [if_neg c16] at H
        exact absurd H (by simp)
end Go.Proofs.Ytabcijheemjplaa.G
namespace Go.Proofs.Ytabcijheemjplaa.G
open Go.RowKit Go.Proofs.YtabcijheemjplaaW.PrintWords Go.Proofs.YtabcijheemjplaaW.PrintLast Go.Proofs.YtabcijheemjplaaW.PrintMore
attribute [local go_sem] QaQ QaR Qa3 Qa4 QaJ QaK QaS QaT
set_option linter.unusedVariables false
set_option linter.unusedSimpArgs false
def Qa2.l0 : Nat → List Int → List Int → Int → Option (Bool)
 | 0, _, _, _ => none
 | k + 1, x0, x1, x5 => if x5 < (x0.length : Int) then (if 0 ≤ x5 then (if x5 < (x1.length : Int) then (if (rd x0 x5) = (rd x1 x5) then (Qa2.l0 k x0 x1 (wrap64 (x5 + 1))) else (some false)) else (none)) else (none)) else (some true)
def Qa2.f (k : Nat) (l0 : List Int) (l1 : List Int) : Option (Bool) := if (l0.length : Int) = (l1.length : Int) then (Qa2.l0 k l0 l1 0) else (some false)
theorem Qa2.mono_l : ∀ k, (∀ y0 y1 y2, LeO (Qa2.l0 k y0 y1 y2) (Qa2.l0 (k + 1) y0 y1 y2))
 | 0 => fun _ _ _ r h => by simp [Qa2.l0] at h
 | k + 1 => by
   have ih0 := Qa2.mono_l k
   · intro y0 y1 y2
     unfold Qa2.l0
     repeat' first
     | (with_reducible exact ih0 _ _ _)
     | (with_reducible exact LeO.refl _)
     | (with_reducible exact LeO.none _)
     | (with_reducible refine LeO.ite ?_ ?_)
     | (with_reducible refine LeO.bind ?_ (fun _ => ?_))
     | exact ih0 _ _ _
     | exact LeO.none _
     | refine LeO.ite ?_ ?_
     | refine LeO.bind ?_ (fun _ => ?_)
theorem Qa2.mono : ∀ a0 a1 k, LeO (Qa2.f k a0 a1) (Qa2.f (k + 1) a0 a1) := by
 intro a0 a1 k
 have ih0 := Qa2.mono_l k
 unfold Qa2.f
 repeat' first
  | (with_reducible exact ih0 _ _ _)
  | (with_reducible exact LeO.refl _)
  | (with_reducible exact LeO.none _)
  | (with_reducible refine LeO.ite ?_ ?_)
  | (with_reducible refine LeO.bind ?_ (fun _ => ?_))
  | exact ih0 _ _ _
  | exact LeO.none _
  | refine LeO.ite ?_ ?_
  | refine LeO.bind ?_ (fun _ => ?_)
set_option maxHeartbeats 8000000 in
set_option maxRecDepth 100000 in
theorem Qa2.calls (k : Nat) (A0 : Option Addr) (c0 : Nat) (l0 : List Int) (A1 : Option Addr) (c1 : Nat) (l1 : List Int) (r : Bool) (w : World) (hr0 : Kd.C (Kd.int .i64) w A0 l0.length l0) (hc0 : l0.length ≤ c0) (hr1 : Kd.C (Kd.int .i64) w A1 l1.length l1) (hc1 : l1.length ≤ c1) (h : Qa2.f k l0 l1 = some r) :
 Calls Try.prog 18 #[.slice A0 l0.length c0, .slice A1 l1.length c1] w fun e w' => e = .returned (.bool r) ∧ Qbv w w' := by
 have HR0 := Aside0.mk hr0
 have HC0 := Aside0.mk hc0
 clear hr0 hc0
 have HR1 := Aside0.mk hr1
 have HC1 := Aside0.mk hc1
 clear hr1 hc1
 have H : (if (l0.length : Int) = (l1.length : Int) then (Qa2.l0 k l0 l1 0) else (some false)) = some r := h
 clear h
 by_cases c3 : (l0.length : Int) = (l1.length : Int)
 · rw [if_pos c3] at H
   have c3b0 : ((l0.length : Int) == (l1.length : Int)) = true := beq_iff_eq.mpr c3
   have c3b1 : ((l0.length : Int) != (l1.length : Int)) = false := bne_eq_false_iff_eq.mpr c3
   have c3b2 : (l0.length == l1.length) = true := by first | simpa using c3 | (simp at c3 ⊢; omega)
   clear c3
   have H' := Aside0.mk H
   clear H
   go_enter Try.func18, Try.ntmps18
   go_wp2
   repeat (go_quiet (fail); try go_wp2)
   go_loopg [5] k (fun kq v5 w' => ∃ (x5_1 : Int), v5 = .int .i64 x5_1 ∧ Aside0 (Qa2.l0 kq l0 l1 x5_1 = some r) ∧ Aside0 (kq ≤ k) ∧ Qbv w w')
   case atStart => exact ⟨(0), (by first | rfl | (simp; done) | (simp [*]; done)), H', ⟨Nat.le_refl _⟩, by repeat (first | exact Qbv.refl _ | apply Qbv.step)⟩
   case round =>
    clear H'
    try clear c1
    try clear p2
    try clear c3
    try clear c3b0
    try clear c3b1
    try clear c3b2
    obtain ⟨x5_1, rfl, HA, HK1, ⟨m1, rfl⟩⟩ := hrel
    cases gk with
    | zero => exact absurd HA.out (by simp [Qa2.l0])
    | succ k1 =>
      have H := HA.out
      clear HA
      simp only [Qa2.l0] at H
      by_cases c4 : x5_1 < (l0.length : Int)
      · rw [if_pos c4] at H
        have c4b0 : decide (x5_1 < (l0.length : Int)) = true := decide_eq_true c4
        clear c4
        by_cases c5 : 0 ≤ x5_1
        · rw [if_pos c5] at H
          have c5b0 : decide (0 ≤ x5_1) = true := decide_eq_true c5
          clear c5
          by_cases c6 : x5_1 < (l1.length : Int)
          · rw [if_pos c6] at H
            have c6b0 : decide (x5_1 < (l1.length : Int)) = true := decide_eq_true c6
            clear c6
            by_cases c7 : (rd l0 x5_1) = (rd l1 x5_1)
            · rw [if_pos c7] at H
              have c7b0 : ((rd l0 x5_1) == (rd l1 x5_1)) = true := beq_iff_eq.mpr c7
              have c7b1 : ((rd l0 x5_1) != (rd l1 x5_1)) = false := bne_eq_false_iff_eq.mpr c7
              clear c7
              have H' := Aside0.mk H
              clear H
              have p101 : 0 ≤ (x5_1 : Int) := of_decide_eq_true (by first | (with_reducible assumption) | assumption)
              have q101 : x5_1 < (l0.length : Int) := of_decide_eq_true (by first | (with_reducible assumption) | assumption)
              obtain ⟨ad101, e101, hx101_0⟩ := Kd.at_int HR0.out x5_1 p101 q101
              cases e101
              replace p101 := eq_true p101
              replace q101 := eq_true q101
              have p102 : 0 ≤ (x5_1 : Int) := of_decide_eq_true (by first | (with_reducible assumption) | assumption)
              have q102 : x5_1 < (l1.length : Int) := of_decide_eq_true (by first | (with_reducible assumption) | assumption)
              obtain ⟨ad102, e102, hx102_0⟩ := Kd.at_int HR1.out x5_1 p102 q102
              cases e102
              replace p102 := eq_true p102
              replace q102 := eq_true q102
              go_wp2
              repeat (go_quiet (fail); try go_wp2)
              go_roundg k1
              case measure => have := HK1.out; omega
              case rel => exact ⟨(wrap64 (x5_1 + 1)), (by first | rfl | (simp; done) | (simp [*]; done)), H', ⟨by have := HK1.out; omega⟩, by repeat (first | exact Qbv.refl _ | apply Qbv.step)⟩
            · rw [if_neg c7] at H
              have c7b0 : ((rd l0 x5_1) == (rd l1 x5_1)) = false := beq_eq_false_iff_ne.mpr c7
              have c7b1 : ((rd l0 x5_1) != (rd l1 x5_1)) = true := bne_iff_ne.mpr c7
              obtain rfl := Option.some.inj H
              have p101 : 0 ≤ (x5_1 : Int) := of_decide_eq_true (by first | (with_reducible assumption) | assumption)
              have q101 : x5_1 < (l0.length : Int) := of_decide_eq_true (by first | (with_reducible assumption) | assumption)
              obtain ⟨ad101, e101, hx101_0⟩ := Kd.at_int HR0.out x5_1 p101 q101
              cases e101
              replace p101 := eq_true p101
              replace q101 := eq_true q101
              have p102 : 0 ≤ (x5_1 : Int) := of_decide_eq_true (by first | (with_reducible assumption) | assumption)
              have q102 : x5_1 < (l1.length : Int) := of_decide_eq_true (by first | (with_reducible assumption) | assumption)
              obtain ⟨ad102, e102, hx102_0⟩ := Kd.at_int HR1.out x5_1 p102 q102
              cases e102
              replace p102 := eq_true p102
              replace q102 := eq_true q102
              go_wp2
              repeat (go_quiet (fail); try go_wp2)
              go_ret
              exact ⟨by first | rfl | (simp; done) | (simp [*]; done), by repeat (first | exact Qbv.refl _ | apply Qbv.step)⟩
          · rw [if_neg c6] at H
            exact absurd H (by simp)
        · rw [if_neg c5] at H
          exact absurd H (by simp)
      · rw [if_neg c4] at H
        have c4b0 : decide (x5_1 < (l0.length : Int)) = false := decide_eq_false c4
        clear c4
        obtain rfl := Option.some.inj H
        go_wp2
        repeat (go_quiet (fail); try go_wp2)
        go_ret
        exact ⟨by first | rfl | (simp; done) | (simp [*]; done), by repeat (first | exact Qbv.refl _ | apply Qbv.step)⟩
 · rw [if_neg c3] at H
   have c3b0 : ((l0.length : Int) == (l1.length : Int)) = false := beq_eq_false_iff_ne.mpr c3
   have c3b1 : ((l0.length : Int) != (l1.length : Int)) = true := bne_iff_ne.mpr c3
   have c3b2 : (l0.length == l1.length) = false := by first | simpa using c3 | (simp at c3 ⊢; omega)
   obtain rfl := Option.some.inj H
   go_enter Try.func18, Try.ntmps18
   go_wp2
   repeat (go_quiet (fail); try go_wp2)
   go_ret
   exact ⟨by first | rfl | (simp; done) | (simp [*]; done), by repeat (first | exact Qbv.refl _ | apply Qbv.step)⟩
end Go.Proofs.Ytabcijheemjplaa.G
namespace Go.Proofs.Ytabcijheemjplaa.G
open Go.RowKit Go.Proofs.YtabcijheemjplaaW.PrintWords Go.Proofs.YtabcijheemjplaaW.PrintLast Go.Proofs.YtabcijheemjplaaW.PrintMore
attribute [local go_sem] QaQ QaR Qa3 Qa4 QaJ QaK QaS QaT
set_option linter.unusedVariables false
set_option linter.unusedSimpArgs false
theorem c_of_cells {w : World} {k : IntKind} {x : Addr} {len cap : Nat} {zs : List Int} (hz : zs.length = cap) (hl : len ≤ cap) (hm : cap ≤ maxLen) (hcell : ∀ i, i < zs.length → w.cell? (x.add i) = some (.int k (zs.getD i 0))) :
 Kd.C (Kd.int k) w (some x) (zs.take len).length (zs.take len) := by
 refine ⟨rfl, by unfold maxLen at hm; rw [List.length_take]; omega, fun _ => ⟨x, rfl, fun j p hj => ⟨[.int k p], rfl, rfl, fun i u hu => ?_⟩⟩⟩
 have hj2 := (List.getElem?_eq_some_iff.1 hj).1
 rw [List.length_take] at hj2
 have hi : i = 0 := by
  have := (List.getElem?_eq_some_iff.1 hu).1
  simpa using this
 subst hi
 simp only [List.getElem?_cons_zero, Option.some.injEq] at hu
 subst hu
 have hp : p = zs.getD j 0 := by
  rw [List.getElem?_take] at hj
  split at hj
  · rw [List.getD_eq_getElem?_getD, hj]; rfl
  · cases hj
 rw [hp]
 have := hcell j (by omega)
 show w.cell? (x.add (j * 1 + 0)) = _
 rw [Nat.mul_one, Nat.add_zero]
 exact this
end Go.Proofs.Ytabcijheemjplaa.G
