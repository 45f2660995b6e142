import Derived.Test.YtabcijheemjplaaK6ca9bb5a
import Derived.Test.YtabcijheemjplaaKdfcd3cab
namespace Go.Proofs.Ytabcijheemjplaa.G
open Go.RowKit Go.Proofs.YtabcijheemjplaaW.PrintWords Go.Proofs.YtabcijheemjplaaW.PrintLast Go.Proofs.YtabcijheemjplaaW.PrintMore
attribute [local go_sem] QaQ QaR Qa3 Qa4 QaJ QaK QaS QaT
set_option linter.unusedVariables false
set_option linter.unusedSimpArgs false
mutual
def Qag.l0 : Nat → List Int → Int → Int → List Int → Int → Int → Int → List (Qac) → Option (Int × Int × (List (Qac)) × Int)
 | 0, _, _, _, _, _, _, _, _ => none
 | k + 1, x1, x8, x9, x1000, x1001, x110000, x110001, x110002 => if x9 < 4 then ((Qay.f k x1000 x1001 x1 x110001).bind fun bt110 => (if x8 < 0 then ((Qab.f k x1000 bt110.2 6).bind fun bt114 => (if bt114.1 = 0 then (Qag.j1 k x1 x8 x9 bt110.1 (decide ((wrap64 ((x110002.length : Int) + (bt110.1.length : Int))) ≤ 10)) x1000 bt114.2 x110000 x110001 x110002) else (Qag.j1 k x1 x8 x9 bt110.1 false x1000 bt114.2 x110000 x110001 x110002))) else (Qag.j1 k x1 x8 x9 bt110.1 false x1000 bt110.2 x110000 x110001 x110002))) else (if x8 ≥ 0 then (if 0 ≤ x8 then (if x8 < (x110002.length : Int) then (Qag.j2 k x1000 x1001 x110000 x110001 (x110002.set (x8 : Int).toNat (⟨(Qah x110002 x8).f0, (x110002.length : Int)⟩ : Qac))) else (none)) else (none)) else (Qag.j2 k x1000 x1001 x110000 x110001 x110002))
def Qag.j1 : Nat → List Int → Int → Int → List (Qac) → Bool → List Int → Int → Int → Int → List (Qac) → Option (Int × Int × (List (Qac)) × Int)
 | 0, _, _, _, _, _, _, _, _, _, _ => none
 | k + 1, x1, x8, x9, x10, x49, x1000, x1001, x110000, x110001, x110002 => if x49 = true then ((Qab.f k x1000 x1001 x110001).bind fun bt116 => ((some (([(⟨2, bt116.1⟩ : Qac), (⟨8, 0⟩ : Qac)] : List (Qac)) : List (Qac))).bind fun y118 => (if x110002.length + y118.length < 8796093022208 then ((some (x110002 ++ y118 : List (Qac))).bind fun y121 => (if (wrap64 ((y121.length : Int) + (x10.length : Int))) ≤ 12 then (if y121.length + x10.length < 8796093022208 then (Qag.l0 k x1 (wrap64 ((x110002.length : Int) + 1)) (wrap64 (x9 + 1)) x1000 bt116.2 x110000 x110001 (y121 ++ x10)) else (none)) else (Qag.l0 k x1 (wrap64 ((x110002.length : Int) + 1)) (wrap64 (x9 + 1)) x1000 bt116.2 x110000 x110001 y121))) else (none)))) else (if (wrap64 ((x110002.length : Int) + (x10.length : Int))) ≤ 12 then (if x110002.length + x10.length < 8796093022208 then (Qag.l0 k x1 x8 (wrap64 (x9 + 1)) x1000 x1001 x110000 x110001 (x110002 ++ x10)) else (none)) else (Qag.l0 k x1 x8 (wrap64 (x9 + 1)) x1000 x1001 x110000 x110001 x110002))
def Qag.j2 : Nat → List Int → Int → Int → Int → List (Qac) → Option (Int × Int × (List (Qac)) × Int)
 | 0, _, _, _, _, _ => none
 | k + 1, x1000, x1001, x110000, x110001, x110002 => (Qab.f k x1000 x1001 3).bind fun bt131 => (if bt131.1 = 0 then (if x110002.length < 8796093022208 then ((some (x110002 ++ [(⟨11, 0⟩ : Qac)] : List (Qac))).bind fun y133 => (if y133.length < 8796093022208 then (some (x110000, x110001, (y133 ++ [(⟨10, 0⟩ : Qac)]), bt131.2)) else (none))) else (none)) else ((Qab.f k x1000 bt131.2 x110001).bind fun bt139 => (if x110002.length < 8796093022208 then ((some (x110002 ++ [(⟨2, bt139.1⟩ : Qac)] : List (Qac))).bind fun y141 => (if y141.length < 8796093022208 then (some (x110000, x110001, (y141 ++ [(⟨10, 0⟩ : Qac)]), bt139.2)) else (none))) else (none))))
end
def Qag.f (k : Nat) (s0_0 : List Int) (s0_1 : Int) (l1 : List Int) (a2 : Int) : Option (Int × Int × (List (Qac)) × Int) := if 0 ≤ a2 then (if a2 < (l1.length : Int) then ((Qab.f k s0_0 s0_1 3).bind fun bt104 => (Qag.l0 k l1 (-1) 0 s0_0 bt104.2 (rd l1 a2) (mx (rd l1 a2) (wrap64 (1 + bt104.1))) (([] : List (Qac))))) else (none)) else (none)
theorem Qad.like_ {w0 W W1 : World} {g : Nat} {f0 : List Int} {f1 : Int} (_h : Qad w0 W g f0 f1) (k : Qad w0 W1 g f0 f1) : Qad w0 W1 g f0 f1 := k
theorem Qag.mono_l : ∀ k, (∀ y0 y1 y2 y3 y4 y5 y6 y7, LeO (Qag.l0 k y0 y1 y2 y3 y4 y5 y6 y7) (Qag.l0 (k + 1) y0 y1 y2 y3 y4 y5 y6 y7)) ∧ (∀ y0 y1 y2 y3 y4 y5 y6 y7 y8 y9, LeO (Qag.j1 k y0 y1 y2 y3 y4 y5 y6 y7 y8 y9) (Qag.j1 (k + 1) y0 y1 y2 y3 y4 y5 y6 y7 y8 y9)) ∧ (∀ y0 y1 y2 y3 y4, LeO (Qag.j2 k y0 y1 y2 y3 y4) (Qag.j2 (k + 1) y0 y1 y2 y3 y4))
 | 0 => ⟨fun _ _ _ _ _ _ _ _ r h => by simp [Qag.l0] at h, fun _ _ _ _ _ _ _ _ _ _ r h => by simp [Qag.j1] at h, fun _ _ _ _ _ r h => by simp [Qag.j2] at h⟩
 | k + 1 => by
   obtain ⟨ih0, ih1, ih2⟩ := Qag.mono_l k
   refine ⟨?_, ?_, ?_⟩
   · intro y0 y1 y2 y3 y4 y5 y6 y7
     unfold Qag.l0
     repeat' first
     | (with_reducible exact ih0 _ _ _ _ _ _ _ _)
     | (with_reducible exact ih1 _ _ _ _ _ _ _ _ _ _)
     | (with_reducible exact ih2 _ _ _ _ _)
     | (with_reducible exact Qab.mono _ _ _ _)
     | (with_reducible exact Qay.mono _ _ _ _ _)
     | (with_reducible exact LeO.refl _)
     | (with_reducible exact LeO.none _)
     | (with_reducible refine LeO.ite ?_ ?_)
     | (with_reducible refine LeO.bind ?_ (fun _ => ?_))
     | exact ih0 _ _ _ _ _ _ _ _
     | exact ih1 _ _ _ _ _ _ _ _ _ _
     | exact ih2 _ _ _ _ _
     | exact Qab.mono _ _ _ _
     | exact Qay.mono _ _ _ _ _
     | exact LeO.none _
     | refine LeO.ite ?_ ?_
     | refine LeO.bind ?_ (fun _ => ?_)
   · intro y0 y1 y2 y3 y4 y5 y6 y7 y8 y9
     unfold Qag.j1
     repeat' first
     | (with_reducible exact ih0 _ _ _ _ _ _ _ _)
     | (with_reducible exact ih1 _ _ _ _ _ _ _ _ _ _)
     | (with_reducible exact ih2 _ _ _ _ _)
     | (with_reducible exact Qab.mono _ _ _ _)
     | (with_reducible exact Qay.mono _ _ _ _ _)
     | (with_reducible exact LeO.refl _)
     | (with_reducible exact LeO.none _)
     | (with_reducible refine LeO.ite ?_ ?_)
     | (with_reducible refine LeO.bind ?_ (fun _ => ?_))
     | exact ih0 _ _ _ _ _ _ _ _
     | exact ih1 _ _ _ _ _ _ _ _ _ _
     | exact ih2 _ _ _ _ _
     | exact Qab.mono _ _ _ _
     | exact Qay.mono _ _ _ _ _
     | exact LeO.none _
     | refine LeO.ite ?_ ?_
     | refine LeO.bind ?_ (fun _ => ?_)
   · intro y0 y1 y2 y3 y4
     unfold Qag.j2
     repeat' first
     | (with_reducible exact ih0 _ _ _ _ _ _ _ _)
     | (with_reducible exact ih1 _ _ _ _ _ _ _ _ _ _)
     | (with_reducible exact ih2 _ _ _ _ _)
     | (with_reducible exact Qab.mono _ _ _ _)
     | (with_reducible exact Qay.mono _ _ _ _ _)
     | (with_reducible exact LeO.refl _)
     | (with_reducible exact LeO.none _)
     | (with_reducible refine LeO.ite ?_ ?_)
     | (with_reducible refine LeO.bind ?_ (fun _ => ?_))
     | exact ih0 _ _ _ _ _ _ _ _
     | exact ih1 _ _ _ _ _ _ _ _ _ _
     | exact ih2 _ _ _ _ _
     | exact Qab.mono _ _ _ _
     | exact Qay.mono _ _ _ _ _
     | exact LeO.none _
     | refine LeO.ite ?_ ?_
     | refine LeO.bind ?_ (fun _ => ?_)
theorem Qag.mono : ∀ a0 a1 a2 a3 k, LeO (Qag.f k a0 a1 a2 a3) (Qag.f (k + 1) a0 a1 a2 a3) := by
 intro a0 a1 a2 a3 k
 obtain ⟨ih0, ih1, ih2⟩ := Qag.mono_l k
 unfold Qag.f
 repeat' first
  | (with_reducible exact ih0 _ _ _ _ _ _ _ _)
  | (with_reducible exact ih1 _ _ _ _ _ _ _ _ _ _)
  | (with_reducible exact ih2 _ _ _ _ _)
  | (with_reducible exact Qab.mono _ _ _ _)
  | (with_reducible exact Qay.mono _ _ _ _ _)
  | (with_reducible exact LeO.refl _)
  | (with_reducible exact LeO.none _)
  | (with_reducible refine LeO.ite ?_ ?_)
  | (with_reducible refine LeO.bind ?_ (fun _ => ?_))
  | exact ih0 _ _ _ _ _ _ _ _
  | exact ih1 _ _ _ _ _ _ _ _ _ _
  | exact ih2 _ _ _ _ _
  | exact Qab.mono _ _ _ _
  | exact Qay.mono _ _ _ _ _
  | exact LeO.none _
  | refine LeO.ite ?_ ?_
  | refine LeO.bind ?_ (fun _ => ?_)
def Qag.T1 : Bool × List (List Nat × List Nat) := (true, [([], []), ([], []), ([0, 1], [0, 1]), ([2], [2]), ([], []), ([], []), ([4, 5], [4, 5]), ([6], [6]), ([], []), ([8], [8]), ([9], [9]), ([7, 10], [7, 10]), ([], []), ([3, 11, 12], [3, 11, 12]), ([], []), ([14, 13, 9, 0, 1, 2, 3, 4, 5, 6, 7, 8, 9, 10, 11, 12, 13, 14], [13, 14])])
def Qag.B1 : List Nat := [0, 0, 3, 7, 0, 0, 48, 112, 0, 256, 768, 2032, 0, 8191, 0, 32767]
theorem Qag.tab1 : rtab .any (opsOf Try.f101 1) = Qag.T1 := by kernel_rfl
theorem Qag.bits1 : QbZ Qag.T1.2 Qag.B1 = true := by kernel_rfl
def Qag.T9 : Bool × List (List Nat × List Nat) := (true, [([], []), ([0], [0]), ([], []), ([], []), ([3], [3]), ([2, 4], [2, 4]), ([5], [5]), ([], []), ([6, 7], [6, 7]), ([1, 8, 5], [1, 8]), ([0, 1, 2, 3, 4, 5, 6, 7, 8, 9], []), ([10, 9, 9, 0, 1, 2, 3, 4, 5, 6, 7, 8, 9], [9, 10])])
def Qag.B9 : List Nat := [0, 1, 0, 0, 8, 28, 60, 0, 252, 511, 1023, 2047]
theorem Qag.tab9 : rtab .any (opsOf Try.f101 9) = Qag.T9 := by kernel_rfl
theorem Qag.bits9 : QbZ Qag.T9.2 Qag.B9 = true := by kernel_rfl
def Qag.T16 : Bool × List (List Nat × List Nat) := (true, [([], []), ([0], [0]), ([], []), ([], []), ([3], [3]), ([2, 4], [2, 4]), ([5], [5]), ([6], [6]), ([1, 7, 5], [1, 7]), ([0, 1, 2, 3, 4, 5, 6, 7, 8], []), ([9, 8, 8, 0, 1, 2, 3, 4, 5, 6, 7, 8], [8, 9])])
def Qag.B16 : List Nat := [0, 1, 0, 0, 8, 28, 60, 124, 255, 511, 1023]
theorem Qag.tab16 : rtab .any (opsOf Try.f101 16) = Qag.T16 := by kernel_rfl
theorem Qag.bits16 : QbZ Qag.T16.2 Qag.B16 = true := by kernel_rfl
set_option maxHeartbeats 8000000 in
set_option maxRecDepth 100000 in
theorem Qag.calls (k : Nat) (g : Nat) (s0_0 : List Int) (s0_1 : Int) (A1 : Option Addr) (c1 : Nat) (l1 : List Int) (a2 : Int) (r1 : Int) (r2 : Int) (r3 : List (Qac)) (r4 : Int) (w0 w : World) (hI : Qad w0 w g s0_0 s0_1) (hB : Below w0.heap.size w0 w) (hr1 : Kd.C (Kd.int .i64) w A1 l1.length l1) (hc1 : l1.length ≤ c1) (hf1 : ∀ ad, A1 = some ad → 0 < l1.length → ad.block ≠ g) (h : Qag.f k s0_0 s0_1 l1 a2 = some (r1, r2, r3, r4)) :
 Calls Try.prog 101 #[.pointer (some ⟨g, 0, none⟩), .slice A1 l1.length c1, .int .i64 a2] w fun e w' => ∃ v2_ : Value, e = .returned (.agg #[.int .i64 r1, .int .i64 r2, v2_]) ∧ Kd.R QaB 83 w' w.heap.size (fun _ => True) v2_ r3 ∧ Qad w0 w' g s0_0 r4 ∧ Below w0.heap.size w0 w' ∧ Qai w w' g none := by
 have hu34 := Try.underlying34
 have hu83 := Try.underlying83
 have HR1 := Aside0.mk hr1
 have HC1 := Aside0.mk hc1
 clear hr1 hc1
 have HI0 := Aside0.mk hI
 have HK := Aside0.mk (Qai.refl w g none)
 have HL := Aside0.mk hB.size
 clear hI
 have HW0 := Aside0.mk hB.size
 have HB := Aside0.mk hB
 clear hB
 have H : (if 0 ≤ a2 then (if a2 < (l1.length : Int) then ((Qab.f k s0_0 s0_1 3).bind fun bt104 => (Qag.l0 k l1 (-1) 0 s0_0 bt104.2 (rd l1 a2) (mx (rd l1 a2) (wrap64 (1 + bt104.1))) (([] : List (Qac))))) else (none)) else (none)) = some (r1, r2, r3, r4) := h
 clear h
 by_cases c4 : 0 ≤ a2
 · first | (with_reducible replace H := (if_pos c4).symm.trans H) | rw [if_pos c4] at H
   have c4b0 : decide (0 ≤ a2) = true := decide_eq_true c4
   clear c4
   by_cases c5 : a2 < (l1.length : Int)
   · first | (with_reducible replace H := (if_pos c5).symm.trans H) | rw [if_pos c5] at H
     have c5b0 : decide (a2 < (l1.length : Int)) = true := decide_eq_true c5
     clear c5
     replace H := Option.bind_eq_some_iff.mp H
     obtain ⟨⟨t104, t105⟩, A60, H⟩ := H
     replace H : (Qag.l0 k l1 (-1) 0 s0_0 t105 (rd l1 a2) (mx (rd l1 a2) (wrap64 (1 + t104))) (([] : List (Qac)))) = some (r1, r2, r3, r4) := H
     have A6 := Aside0.mk A60
     clear A60
     obtain ⟨ji7, hji7⟩ : ∃ j_ : Int, (mx (rd l1 a2) (wrap64 (1 + t104))) = j_ := ⟨_, rfl⟩
     replace H : (Qag.l0 k l1 (-1) 0 s0_0 t105 (rd l1 a2) ji7 (([] : List (Qac)))) = some (r1, r2, r3, r4) := by first | (rw [hji7] at H; exact H) | (simp only [hji7] at H ⊢; exact H)
     (try rw [hji7] at A6)
     have hji7_ : (if (rd l1 a2) < (wrap64 (1 + t104)) then (wrap64 (1 + t104)) else (rd l1 a2)) = ji7 := hji7
     obtain ⟨y106, hy106⟩ : ∃ y_ : List (Qac), y_ = (([] : List (Qac))) := ⟨_, rfl⟩
     replace H : (Qag.l0 k l1 (-1) 0 s0_0 t105 (rd l1 a2) ji7 y106) = some (r1, r2, r3, r4) := by first | (rw [hy106]; with_reducible exact H) | (have H2_ := (Option.bind_some _ _).symm.trans H; rw [hy106]; with_reducible exact H2_) | (have H2_ := (Option.bind_some _ _).symm.trans H; with_reducible exact H2_) | with_reducible exact H | (rw [hy106]; exact H) | exact H
     have Ny106 := Aside0.mk hy106
     clear hy106
     have H' := Aside0.mk H
     clear H
     go_enter Try.func101, Try.ntmps101
     try go_wp2_with (first | ((with_reducible refine QaH (N := 6) rfl ?_); (try (refine Qa8 (by rfl) ?_; dsimp only)); refine QaN ?hg (N := 6) ?hd (cs := #[.int .i64 0, .int .i64 0, .slice none 0 0]) (t := 34) ?hr ?_; (case hd => rfl); (case hg => rfl); (case hr => first | (go_simp; done) | (go_simp; rfl)); intro gb101 hg w8 hbox hb; have n0_ := Aside0.mk (Qad.below (ki_) hb); have n1_ := Aside0.mk (Qai.trans (kk_) (Qai.of_below hb g none) (.inl rfl)); have n2_ := Aside0.mk (Qap (bx_) hb); have n3_ := Aside0.mk (hbox); have n4_ := Aside0.mk ((by rw [hg]; exact (QaC (w := w) (g := g) (row := none) (kk_)) : w.heap.size ≤ gb101)); have n5_ := Aside0.mk ((Nat.le_trans HW0.out (by rw [hg]; exact (QaC (w := w) (g := g) (row := none) (kk_)) : w.heap.size ≤ gb101) : w0.heap.size ≤ gb101)); have n6_ := Aside0.mk ((by rw [hg]; exact Nat.ne_of_lt (Qad.lt (show Qad w0 _ g s0_0 s0_1 from ki_)) : g ≠ gb101)); have n7_ := Aside0.mk ((by rw [hg]; exact Nat.ne_of_gt (Qad.lt (show Qad w0 _ g s0_0 s0_1 from ki_)) : gb101 ≠ g)); clear HI0; clear HK; clear HB; have HI0 := n0_; have HK := n1_; have HB := n2_; have BK101 := n3_; have GW101 := n4_; have GE101 := n5_; have NB0_101 := n6_; have NB101_0 := n7_; clear n0_ n1_ n2_ n3_ n4_ n5_ n6_ n7_; clear hb hbox hg))
     have n0_ := Aside0.mk (Qbf BK101.out)
     have n1_ := Aside0.mk (Qad.drew HI0.out)
     have n2_ := Aside0.mk (Qcp HK.out)
     have n3_ := Aside0.mk (Qav HB.out)
     clear BK101
     clear HI0
     clear HK
     clear HB
     have BK101 := n0_
     have HI0 := n1_
     have HK := n2_
     have HB := n3_
     clear n0_ n1_ n2_ n3_
     have p102 : 0 ≤ (a2 : Int) := of_decide_eq_true (by first | (with_reducible assumption) | assumption)
     have q102 : a2 < (l1.length : Int) := of_decide_eq_true (by first | (with_reducible assumption) | assumption)
     obtain ⟨ad102, e102, hx102_0⟩ := Kd.at_int HR1.out a2 p102 q102
     have hw102_0 := hx102_0
     cases e102
     have hne102_0 := (show ((ad102.add (a2).toNat) : Addr).block ≠ g from by first | (rw [QaL]; exact hf1 ad102 rfl (by omega)) | (show (Addr.add _ _).block ≠ _; rw [QaL]; exact hf1 ad102 rfl (by omega)) | exact hf1 ad102 rfl (by omega))
     replace hx102_0 := Qa6 HK.out hx102_0 (by first | (rw [QaL]; exact hf1 _ rfl (by omega)) | exact hf1 _ rfl (by omega) | exact hf1 ad102 rfl (by omega))
     replace p102 := eq_true p102
     replace q102 := eq_true q102
     have p103 : 0 ≤ (a2 : Int) := of_decide_eq_true (by first | (with_reducible assumption) | assumption)
     have q103 : a2 < (l1.length : Int) := of_decide_eq_true (by first | (with_reducible assumption) | assumption)
     obtain ⟨ad103, e103, hx103_0⟩ := Kd.at_int HR1.out a2 p103 q103
     have hw103_0 := hx103_0
     obtain rfl : ad102 = ad103 := (by injection e103)
     have hne103_0 := (show ((ad102.add (a2).toNat) : Addr).block ≠ g from by first | (rw [QaL]; exact hf1 ad102 rfl (by omega)) | (show (Addr.add _ _).block ≠ _; rw [QaL]; exact hf1 ad102 rfl (by omega)) | exact hf1 ad102 rfl (by omega))
     replace hx103_0 := Qa6 HK.out hx103_0 (by first | (rw [QaL]; exact hf1 _ rfl (by omega)) | exact hf1 _ rfl (by omega) | exact hf1 ad102 rfl (by omega))
     replace p103 := eq_true p103
     replace q103 := eq_true q103
     refine Qch (n := 16) (S := fun w' => w'.cell? (ad102.add (a2).toNat) = some (.int .i64 (rd l1 a2)) ∧ w'.cell? (ad102.add (a2).toNat) = some (.int .i64 (rd l1 a2))) (ds := []) #[false, false, false, false, false, false, false, false, false, false, false, false, false, false, false, false] (by kernel_rfl) rfl rfl ⟨(Qa6 HK.out hw102_0 hne102_0), (Qa6 HK.out hw103_0 hne103_0)⟩ (fun hHeld => ?_); refine Qby Qag.tab1 Qag.bits1 (fun HT_ HW_ => ?_)
     generalize w8.drew = w9 at BK101 HI0 HK HB hx102_0 hx103_0 hHeld ⊢
     refine pu_ 0 (some 11) #[true, false, false, false, false, false, false, false, false, false, false, false, false, false, false, false] rfl rfl ?_
     refine pu_ 1 (some 12) #[true, true, false, false, false, false, false, false, false, false, false, false, false, false, false, false] rfl rfl ?_
     refine pu_ 2 (some 13) #[true, true, true, false, false, false, false, false, false, false, false, false, false, false, false, false] rfl rfl ?_
     refine pu_ 4 (some 15) #[true, true, true, false, true, false, false, false, false, false, false, false, false, false, false, false] rfl rfl ?_
     refine pu_ 5 (some 16) #[true, true, true, false, true, true, false, false, false, false, false, false, false, false, false, false] rfl rfl ?_
     refine pu_ 6 (some 17) #[true, true, true, false, true, true, true, false, false, false, false, false, false, false, false, false] rfl rfl ?_
     refine pu_ 8 (some 19) #[true, true, true, false, true, true, true, false, true, false, false, false, false, false, false, false] rfl rfl ?_
     refine tk_ 3 (some 14) #[true, true, true, true, true, true, true, false, true, false, false, false, false, false, false, false] rfl rfl hHeld ?_
     refine tk_ 7 (some 18) #[true, true, true, true, true, true, true, true, true, false, false, false, false, false, false, false] rfl rfl hHeld ?_
     refine join_ (σ := Value × Nat) 1 #[true, true, true, true, true, true, true, true, true, true, true, true, true, true, true, false] (fun s_ => [(20, .int .i64 t104), (23, s_.1), (7, .pointer (some ⟨s_.2, 0, none⟩)), (21, .int .i64 (wrap64 (1 + t104))), (22, .int .i64 ji7), (24, .agg #[.int .i64 (rd l1 a2), .int .i64 ji7, s_.1])]) (fun s_ w' => (w'.cell? (ad102.add (a2).toNat) = some (.int .i64 (rd l1 a2)) ∧ w'.cell? (ad102.add (a2).toNat) = some (.int .i64 (rd l1 a2))) ∧ (Kd.R QaB 83 w' w.heap.size (fun _ => True) s_.1 y106) ∧ (w'.heap[gb101]? = some (.cells #[.int .i64 0, .int .i64 0, .slice none 0 0] 34 (0, 0))) ∧ (w'.heap[s_.2]? = some (.cells #[.int .i64 0, .int .i64 0, .slice none 0 0] 34 (0, 0))) ∧ (w.heap.size ≤ s_.2) ∧ (w0.heap.size ≤ s_.2) ∧ (g ≠ s_.2) ∧ (s_.2 ≠ g) ∧ (gb101 ≠ s_.2) ∧ (s_.2 ≠ gb101) ∧ (Qad w0 w' g s0_0 t105) ∧ (Qai w w' g none) ∧ (Below w0.heap.size w0 w')) ?_ ?_
     rotate_left
     · intro hJ9_12_14
       refine join_ (σ := Value) 2 #[true, true, true, true, true, true, true, true, true, true, true, true, true, true, false, false] (fun s_ => [(20, .int .i64 t104), (23, s_), (21, .int .i64 (wrap64 (1 + t104))), (22, .int .i64 ji7), (24, .agg #[.int .i64 (rd l1 a2), .int .i64 ji7, s_])]) (fun s_ w' => (w'.cell? (ad102.add (a2).toNat) = some (.int .i64 (rd l1 a2)) ∧ w'.cell? (ad102.add (a2).toNat) = some (.int .i64 (rd l1 a2))) ∧ (Kd.R QaB 83 w' w.heap.size (fun _ => True) s_ y106) ∧ (w'.heap[gb101]? = some (.cells #[.int .i64 0, .int .i64 0, .slice none 0 0] 34 (0, 0))) ∧ (Qad w0 w' g s0_0 t105) ∧ (Qai w w' g none) ∧ (Below w0.heap.size w0 w')) ?_ ?_
       rotate_left
       · intro hJ9_12
         refine join_ (σ := Nat) 3 #[true, true, true, true, true, true, true, true, true, true, true, true, false, false, true, false] (fun s_ => [(20, .int .i64 t104), (7, .pointer (some ⟨s_, 0, none⟩)), (21, .int .i64 (wrap64 (1 + t104))), (22, .int .i64 ji7)]) (fun s_ w' => (w'.cell? (ad102.add (a2).toNat) = some (.int .i64 (rd l1 a2)) ∧ w'.cell? (ad102.add (a2).toNat) = some (.int .i64 (rd l1 a2))) ∧ (w'.heap[gb101]? = some (.cells #[.int .i64 0, .int .i64 0, .slice none 0 0] 34 (0, 0))) ∧ (w'.heap[s_]? = some (.cells #[.int .i64 0, .int .i64 0, .slice none 0 0] 34 (0, 0))) ∧ (w.heap.size ≤ s_) ∧ (w0.heap.size ≤ s_) ∧ (g ≠ s_) ∧ (s_ ≠ g) ∧ (gb101 ≠ s_) ∧ (s_ ≠ gb101) ∧ (Qad w0 w' g s0_0 t105) ∧ (Qai w w' g none) ∧ (Below w0.heap.size w0 w')) ?_ ?_
         rotate_left
         · intro hJ9_14
           refine join_ (σ := Value × Nat) 5 #[true, true, true, true, true, true, true, true, true, false, false, false, true, false, true, false] (fun s_ => [(23, s_.1), (7, .pointer (some ⟨s_.2, 0, none⟩))]) (fun s_ w' => (w'.cell? (ad102.add (a2).toNat) = some (.int .i64 (rd l1 a2)) ∧ w'.cell? (ad102.add (a2).toNat) = some (.int .i64 (rd l1 a2))) ∧ (Kd.R QaB 83 w' w.heap.size (fun _ => True) s_.1 y106) ∧ (w'.heap[gb101]? = some (.cells #[.int .i64 0, .int .i64 0, .slice none 0 0] 34 (0, 0))) ∧ (w'.heap[s_.2]? = some (.cells #[.int .i64 0, .int .i64 0, .slice none 0 0] 34 (0, 0))) ∧ (w.heap.size ≤ s_.2) ∧ (w0.heap.size ≤ s_.2) ∧ (g ≠ s_.2) ∧ (s_.2 ≠ g) ∧ (gb101 ≠ s_.2) ∧ (s_.2 ≠ gb101) ∧ (Qad w0 w' g s0_0 s0_1) ∧ (Qai w w' g none) ∧ (Below w0.heap.size w0 w')) ?_ ?_
           rotate_left
           · intro hJ12_14
             refine join_ (σ := Unit) 4 #[true, true, true, true, true, true, true, true, true, true, true, true, false, false, false, false] (fun s_ => [(20, .int .i64 t104), (21, .int .i64 (wrap64 (1 + t104))), (22, .int .i64 ji7)]) (fun s_ w' => (w'.cell? (ad102.add (a2).toNat) = some (.int .i64 (rd l1 a2)) ∧ w'.cell? (ad102.add (a2).toNat) = some (.int .i64 (rd l1 a2))) ∧ (w'.heap[gb101]? = some (.cells #[.int .i64 0, .int .i64 0, .slice none 0 0] 34 (0, 0))) ∧ (Qad w0 w' g s0_0 t105) ∧ (Qai w w' g none) ∧ (Below w0.heap.size w0 w')) ?_ ?_
             rotate_left
             · intro hJ9
               refine join_ (σ := Value) 6 #[true, true, true, true, true, true, true, true, true, false, false, false, true, false, false, false] (fun s_ => [(23, s_)]) (fun s_ w' => (w'.cell? (ad102.add (a2).toNat) = some (.int .i64 (rd l1 a2)) ∧ w'.cell? (ad102.add (a2).toNat) = some (.int .i64 (rd l1 a2))) ∧ (Kd.R QaB 83 w' w.heap.size (fun _ => True) s_ y106) ∧ (w'.heap[gb101]? = some (.cells #[.int .i64 0, .int .i64 0, .slice none 0 0] 34 (0, 0))) ∧ (Qad w0 w' g s0_0 s0_1) ∧ (Qai w w' g none) ∧ (Below w0.heap.size w0 w')) ?_ ?_
               rotate_left
               · intro hJ12
                 refine join_ (σ := Nat) 6 #[true, true, true, true, true, true, true, true, true, false, false, false, false, false, true, false] (fun s_ => [(7, .pointer (some ⟨s_, 0, none⟩))]) (fun s_ w' => (w'.cell? (ad102.add (a2).toNat) = some (.int .i64 (rd l1 a2)) ∧ w'.cell? (ad102.add (a2).toNat) = some (.int .i64 (rd l1 a2))) ∧ (w'.heap[gb101]? = some (.cells #[.int .i64 0, .int .i64 0, .slice none 0 0] 34 (0, 0))) ∧ (w'.heap[s_]? = some (.cells #[.int .i64 0, .int .i64 0, .slice none 0 0] 34 (0, 0))) ∧ (w.heap.size ≤ s_) ∧ (w0.heap.size ≤ s_) ∧ (g ≠ s_) ∧ (s_ ≠ g) ∧ (gb101 ≠ s_) ∧ (s_ ≠ gb101) ∧ (Qad w0 w' g s0_0 s0_1) ∧ (Qai w w' g none) ∧ (Below w0.heap.size w0 w')) ?_ ?_
                 rotate_left
                 · intro hJ14
                   refine three_ (i := 9) (j := 12) (k := 14) (Ni := some 20) (Nj := some 23) (Nk := some 7) #[true, true, true, true, true, true, true, true, true, true, false, false, false, false, false, false] #[true, true, true, true, true, true, true, true, true, false, false, false, true, false, false, false] #[true, true, true, true, true, true, true, true, true, false, false, false, false, false, true, false] rfl rfl rfl rfl rfl rfl (three_of HT_.out (by kernel_rfl)) (by decide) (by decide) (by decide) (fun K hK => ?_) (fun K hK => ?_) (fun K hK => ?_)
                   · skip
                     refine goes_ Try.func55 (by kernel_rfl) rfl #[.pointer (some ⟨g, 0, none⟩), .int .i64 3] (by rfl) rfl rfl (by (try simp only [List.map_toArray, List.map_cons, List.map_nil]); first | done | rfl | (simp only [List.length_drop, List.length_take]; rfl)) ?_
                     with_reducible refine (Qab.calls k g s0_0 s0_1 3 t104 t105 w0 _ ?side1 ?side2 A6.out).mono ?_
                     (case side1 => repeat (first | (with_reducible first | exact HI0.out | apply Qad.alloc | apply Qad.drewN | apply Qad.drew | apply Qad.set_1 | refine Qad.far ?_ NB0_101.out _) | exact HI0.out))
                     (case side2 => repeat (first | (with_reducible first | exact HB.out | apply Qal | apply Qar | apply Qav | refine Qaw ?_ (Qad.ge HI0.out) | refine Qaw ?_ GE101.out) | exact HB.out))
                     rintro e w10 ⟨rfl, hi, hb, hk⟩
                     refine ⟨_, rfl, ?_⟩
                     have n0_ := Aside0.mk (Qai.blk hk (g' := gb101) (o := .cells #[.int .i64 0, .int .i64 0, .slice none 0 0] 34 (0, 0)) (by (refine kb_ ?_); exact BK101.out) NB101_0.out (by simp))
                     have n1_ := Aside0.mk (Qai.trans (kk_) hk (.inl rfl))
                     have n2_ := Aside0.mk (hb)
                     have n3_ := Aside0.mk (hi)
                     clear BK101
                     clear HK
                     clear HB
                     clear HI0
                     have BK101 := n0_
                     have HK := n1_
                     have HB := n2_
                     have HI0 := n3_
                     clear n0_ n1_ n2_ n3_
                     (try clear hb)
                     (try clear hb2)
                     (try clear hk)
                     (try clear hi)
                     refine hK.out _ _ ⟨(Qa6 HK.out hw102_0 hne102_0), (Qa6 HK.out hw103_0 hne103_0)⟩ (fun hHeld => ?_)
                     clear hK K
                     refine Qbo (a' := ?_) ?_ ?_
                     rotate_left
                     · show Act.put _ (some 20) _ = _
                       simp only [Act.put, List.setIfInBounds_toArray, List.set_cons_zero, List.set_cons_succ, Qbb, Qbd]
                       rfl
                     refine pu_ 10 (some 21) #[true, true, true, true, true, true, true, true, true, true, true, false, false, false, false, false] rfl rfl ?_
                     refine pu_ 11 (some 22) #[true, true, true, true, true, true, true, true, true, true, true, true, false, false, false, false] rfl rfl ?_
                     exact Qbo (by first | (simp only [Qbq, Act.put, List.setIfInBounds_toArray, List.set_cons_zero, List.set_cons_succ]; done) | (simp only [Qbq, Act.put, List.setIfInBounds_toArray, List.set_cons_zero, List.set_cons_succ]; rfl)) (hJ9 () _ ⟨hHeld, (by (refine kb_ ?_); exact BK101.out), (ki_), (kk_), (bx_)⟩)
                   · skip
                     refine Kd.R_lit_step QaB _ 83 ?hg (N := 23) ?hd (xs := ([] : List (Qac))) (inner := []) (ok := fun _ => True) (okp := fun _ => True) ?hr ?hp (fun _ hk => hk) trivial (Below.refl _ _) (Nat.le_refl _) (by simp) ?_; (case hd => rfl); (case hg => rfl); (case hr => first | (go_simp; done) | (go_simp; rfl)); (case hp => exact (Qa9.none _ _))
                     intro v107 w10 ho11 hb hg_ hnew_
                     clear hg_ hnew_
                     (first | rw [← Ny106.out] at ho11 | (simp only [Int.reduceToNat] at ho11; rw [← Ny106.out] at ho11))
                     have n0_ := Aside0.mk (Kd.R_lower ho11 (QaC (w := w) (g := g) (row := none) (kk_)))
                     have n1_ := Aside0.mk (Qad.below (ki_) hb)
                     have n2_ := Aside0.mk (bb_ BK101 hb)
                     have n3_ := Aside0.mk (Qai.trans (kk_) (Qai.of_below hb g none) (.inl rfl))
                     have n4_ := Aside0.mk (Qap (bx_) hb)
                     clear HI0
                     clear BK101
                     clear HK
                     clear HB
                     have HO108 := n0_
                     have HI0 := n1_
                     have BK101 := n2_
                     have HK := n3_
                     have HB := n4_
                     clear n0_ n1_ n2_ n3_ n4_
                     clear hb ho11
                     refine hK.out _ _ ⟨(Qa6 HK.out hw102_0 hne102_0), (Qa6 HK.out hw103_0 hne103_0)⟩ (fun hHeld => ?_)
                     clear hK K
                     refine Qbo (a' := ?_) ?_ ?_
                     rotate_left
                     · show Act.put _ (some 23) _ = _
                       simp only [Act.put, List.setIfInBounds_toArray, List.set_cons_zero, List.set_cons_succ, Qbb, Qbd]
                       rfl
                     exact Qbo (by first | (simp only [Qbq, Act.put, List.setIfInBounds_toArray, List.set_cons_zero, List.set_cons_succ]; done) | (simp only [Qbq, Act.put, List.setIfInBounds_toArray, List.set_cons_zero, List.set_cons_succ]; rfl)) (hJ12 (v107) _ ⟨hHeld, (by (refine QaP ?_); exact HO108.out), (by (refine kb_ ?_); exact BK101.out), (ki_), (kk_), (bx_)⟩)
                   · skip
                     refine box_step ?hg (N := 7) ?hd (cs := #[.int .i64 0, .int .i64 0, .slice none 0 0]) (t := 34) ?hr ?_; (case hd => rfl); (case hg => rfl); (case hr => first | (go_simp; done) | (go_simp; rfl))
                     intro gb109 hg w10 hbox hb
                     have n0_ := Aside0.mk (Qad.below (ki_) hb)
                     have n1_ := Aside0.mk (bb_ BK101 hb)
                     have n2_ := Aside0.mk (Qai.trans (kk_) (Qai.of_below hb g none) (.inl rfl))
                     have n3_ := Aside0.mk (Qap (bx_) hb)
                     have n4_ := Aside0.mk (hbox)
                     have n5_ := Aside0.mk ((by rw [hg]; exact (QaC (w := w) (g := g) (row := none) (kk_)) : w.heap.size ≤ gb109))
                     have n6_ := Aside0.mk ((Nat.le_trans HW0.out (by rw [hg]; exact (QaC (w := w) (g := g) (row := none) (kk_)) : w.heap.size ≤ gb109) : w0.heap.size ≤ gb109))
                     have n7_ := Aside0.mk ((nl_ hg BK101 : gb101 ≠ gb109))
                     have n8_ := Aside0.mk ((ng_ hg BK101 : gb109 ≠ gb101))
                     have n9_ := Aside0.mk ((by rw [hg]; exact Nat.ne_of_lt (Qad.lt (show Qad w0 _ g s0_0 s0_1 from ki_)) : g ≠ gb109))
                     have n10_ := Aside0.mk ((by rw [hg]; exact Nat.ne_of_gt (Qad.lt (show Qad w0 _ g s0_0 s0_1 from ki_)) : gb109 ≠ g))
                     clear HI0
                     clear BK101
                     clear HK
                     clear HB
                     have HI0 := n0_
                     have BK101 := n1_
                     have HK := n2_
                     have HB := n3_
                     have BK109 := n4_
                     have GW109 := n5_
                     have GE109 := n6_
                     have NB101_109 := n7_
                     have NB109_101 := n8_
                     have NB0_109 := n9_
                     have NB109_0 := n10_
                     clear n0_ n1_ n2_ n3_ n4_ n5_ n6_ n7_ n8_ n9_ n10_
                     clear hb hbox hg
                     refine hK.out _ _ ⟨(Qa6 HK.out hw102_0 hne102_0), (Qa6 HK.out hw103_0 hne103_0)⟩ (fun hHeld => ?_)
                     clear hK K
                     refine Qbo (a' := ?_) ?_ ?_
                     rotate_left
                     · show Act.put _ (some 7) _ = _
                       simp only [Act.put, List.setIfInBounds_toArray, List.set_cons_zero, List.set_cons_succ, Qbb, Qbd]
                       rfl
                     exact Qbo (by first | (simp only [Qbq, Act.put, List.setIfInBounds_toArray, List.set_cons_zero, List.set_cons_succ]; done) | (simp only [Qbq, Act.put, List.setIfInBounds_toArray, List.set_cons_zero, List.set_cons_succ]; rfl)) (hJ14 (gb109) _ ⟨hHeld, (by (refine kb_ ?_); exact BK101.out), (by (refine kb_ ?_); exact BK109.out), GW109.out, GE109.out, NB0_109.out, NB109_0.out, NB101_109.out, NB109_101.out, (ki_), (kk_), (bx_)⟩)
                 · skip
                   rintro gb109 w11 ⟨hS_, h0_, h1_, h2_, h3_, h4_, h5_, h6_, h7_, h8_, h9_, h10_⟩
                   have n0_ : Aside0 (w11.heap[gb101]? = some (.cells #[.int .i64 0, .int .i64 0, .slice none 0 0] 34 (0, 0))) := ⟨h0_⟩
                   have n1_ : Aside0 (w11.heap[gb109]? = some (.cells #[.int .i64 0, .int .i64 0, .slice none 0 0] 34 (0, 0))) := ⟨h1_⟩
                   have n2_ : Aside0 (w.heap.size ≤ gb109) := ⟨h2_⟩
                   have n3_ : Aside0 (w0.heap.size ≤ gb109) := ⟨h3_⟩
                   have n4_ : Aside0 (g ≠ gb109) := ⟨h4_⟩
                   have n5_ : Aside0 (gb109 ≠ g) := ⟨h5_⟩
                   have n6_ : Aside0 (gb101 ≠ gb109) := ⟨h6_⟩
                   have n7_ : Aside0 (gb109 ≠ gb101) := ⟨h7_⟩
                   have n8_ : Aside0 (Qad w0 w11 g s0_0 s0_1) := ⟨h8_⟩
                   have n9_ : Aside0 (Qai w w11 g none) := ⟨h9_⟩
                   have n10_ : Aside0 (Below w0.heap.size w0 w11) := ⟨h10_⟩
                   clear BK101
                   clear HI0
                   clear HK
                   clear HB
                   clear h0_ h1_ h2_ h3_ h4_ h5_ h6_ h7_ h8_ h9_ h10_
                   have BK101 := n0_
                   have BK109 := n1_
                   have GW109 := n2_
                   have GE109 := n3_
                   have NB0_109 := n4_
                   have NB109_0 := n5_
                   have NB101_109 := n6_
                   have NB109_101 := n7_
                   have HI0 := n8_
                   have HK := n9_
                   have HB := n10_
                   clear n0_ n1_ n2_ n3_ n4_ n5_ n6_ n7_ n8_ n9_ n10_
                   have hHeld : w11.cell? (ad102.add (a2).toNat) = some (.int .i64 (rd l1 a2)) ∧ w11.cell? (ad102.add (a2).toNat) = some (.int .i64 (rd l1 a2)) := hS_
                   refine Qbo (a' := ?_) ?_ ?_
                   rotate_left
                   · simp only [Qbq, Act.put, List.setIfInBounds_toArray, List.set_cons_zero, List.set_cons_succ]
                     rfl
                   refine two_ (i := 9) (j := 12) (Ni := some 20) (Nj := some 23) #[true, true, true, true, true, true, true, true, true, true, false, false, false, false, true, false] #[true, true, true, true, true, true, true, true, true, false, false, false, true, false, true, false] rfl rfl rfl rfl (two_of HT_.out (by kernel_rfl)) (by decide) (by decide) (fun K hK => ?_) (fun K hK => ?_)
                   · skip
                     refine goes_ Try.func55 (by kernel_rfl) rfl #[.pointer (some ⟨g, 0, none⟩), .int .i64 3] (by rfl) rfl rfl (by (try simp only [List.map_toArray, List.map_cons, List.map_nil]); first | done | rfl | (simp only [List.length_drop, List.length_take]; rfl)) ?_
                     with_reducible refine (Qab.calls k g s0_0 s0_1 3 t104 t105 w0 _ ?side1 ?side2 A6.out).mono ?_
                     (case side1 => repeat (first | (with_reducible first | exact HI0.out | apply Qad.alloc | apply Qad.drewN | apply Qad.drew | apply Qad.set_1 | refine Qad.far ?_ NB0_101.out _ | refine Qad.far ?_ NB0_109.out _) | exact HI0.out))
                     (case side2 => repeat (first | (with_reducible first | exact HB.out | apply Qal | apply Qar | apply Qav | refine Qaw ?_ (Qad.ge HI0.out) | refine Qaw ?_ GE101.out | refine Qaw ?_ GE109.out) | exact HB.out))
                     rintro e w12 ⟨rfl, hi, hb, hk⟩
                     refine ⟨_, rfl, ?_⟩
                     have n0_ := Aside0.mk (Qai.blk hk (g' := gb101) (o := .cells #[.int .i64 0, .int .i64 0, .slice none 0 0] 34 (0, 0)) (by (refine kb_ ?_); exact BK101.out) NB101_0.out (by simp))
                     have n1_ := Aside0.mk (Qai.blk hk (g' := gb109) (o := .cells #[.int .i64 0, .int .i64 0, .slice none 0 0] 34 (0, 0)) (by (refine kb_ ?_); exact BK109.out) NB109_0.out (by simp))
                     have n2_ := Aside0.mk (Qai.trans (kk_) hk (.inl rfl))
                     have n3_ := Aside0.mk (hb)
                     have n4_ := Aside0.mk (hi)
                     clear BK101
                     clear BK109
                     clear HK
                     clear HB
                     clear HI0
                     have BK101 := n0_
                     have BK109 := n1_
                     have HK := n2_
                     have HB := n3_
                     have HI0 := n4_
                     clear n0_ n1_ n2_ n3_ n4_
                     (try clear hb)
                     (try clear hb2)
                     (try clear hk)
                     (try clear hi)
                     refine hK.out _ _ ⟨(Qa6 HK.out hw102_0 hne102_0), (Qa6 HK.out hw103_0 hne103_0)⟩ (fun hHeld => ?_)
                     clear hK K
                     refine Qbo (a' := ?_) ?_ ?_
                     rotate_left
                     · show Act.put _ (some 20) _ = _
                       simp only [Act.put, List.setIfInBounds_toArray, List.set_cons_zero, List.set_cons_succ, Qbb, Qbd]
                       rfl
                     refine pu_ 10 (some 21) #[true, true, true, true, true, true, true, true, true, true, true, false, false, false, true, false] rfl rfl ?_
                     refine pu_ 11 (some 22) #[true, true, true, true, true, true, true, true, true, true, true, true, false, false, true, false] rfl rfl ?_
                     exact Qbo (by first | (simp only [Qbq, Act.put, List.setIfInBounds_toArray, List.set_cons_zero, List.set_cons_succ]; done) | (simp only [Qbq, Act.put, List.setIfInBounds_toArray, List.set_cons_zero, List.set_cons_succ]; rfl)) (hJ9_14 (gb109) _ ⟨hHeld, (by (refine kb_ ?_); exact BK101.out), (by (refine kb_ ?_); exact BK109.out), GW109.out, GE109.out, NB0_109.out, NB109_0.out, NB101_109.out, NB109_101.out, (ki_), (kk_), (bx_)⟩)
                   · skip
                     refine Kd.R_lit_step QaB _ 83 ?hg (N := 23) ?hd (xs := ([] : List (Qac))) (inner := []) (ok := fun _ => True) (okp := fun _ => True) ?hr ?hp (fun _ hk => hk) trivial (Below.refl _ _) (Nat.le_refl _) (by simp) ?_; (case hd => rfl); (case hg => rfl); (case hr => first | (go_simp; done) | (go_simp; rfl)); (case hp => exact (Qa9.none _ _))
                     intro v107 w12 ho13 hb hg_ hnew_
                     clear hg_ hnew_
                     (first | rw [← Ny106.out] at ho13 | (simp only [Int.reduceToNat] at ho13; rw [← Ny106.out] at ho13))
                     have n0_ := Aside0.mk (Kd.R_lower ho13 (QaC (w := w) (g := g) (row := none) (kk_)))
                     have n1_ := Aside0.mk (Qad.below (ki_) hb)
                     have n2_ := Aside0.mk (bb_ BK101 hb)
                     have n3_ := Aside0.mk (bb_ BK109 hb)
                     have n4_ := Aside0.mk (Qai.trans (kk_) (Qai.of_below hb g none) (.inl rfl))
                     have n5_ := Aside0.mk (Qap (bx_) hb)
                     clear HI0
                     clear BK101
                     clear BK109
                     clear HK
                     clear HB
                     have HO108 := n0_
                     have HI0 := n1_
                     have BK101 := n2_
                     have BK109 := n3_
                     have HK := n4_
                     have HB := n5_
                     clear n0_ n1_ n2_ n3_ n4_ n5_
                     clear hb ho13
                     refine hK.out _ _ ⟨(Qa6 HK.out hw102_0 hne102_0), (Qa6 HK.out hw103_0 hne103_0)⟩ (fun hHeld => ?_)
                     clear hK K
                     refine Qbo (a' := ?_) ?_ ?_
                     rotate_left
                     · show Act.put _ (some 23) _ = _
                       simp only [Act.put, List.setIfInBounds_toArray, List.set_cons_zero, List.set_cons_succ, Qbb, Qbd]
                       rfl
                     exact Qbo (by first | (simp only [Qbq, Act.put, List.setIfInBounds_toArray, List.set_cons_zero, List.set_cons_succ]; done) | (simp only [Qbq, Act.put, List.setIfInBounds_toArray, List.set_cons_zero, List.set_cons_succ]; rfl)) (hJ12_14 (v107, gb109) _ ⟨hHeld, (by (refine QaP ?_); exact HO108.out), (by (refine kb_ ?_); exact BK101.out), (by (refine kb_ ?_); exact BK109.out), GW109.out, GE109.out, NB0_109.out, NB109_0.out, NB101_109.out, NB109_101.out, (ki_), (kk_), (bx_)⟩)
               · skip
                 rintro v107 w12 ⟨hS_, h0_, h1_, h2_, h3_, h4_⟩
                 have n0_ : Aside0 (Kd.R QaB 83 w12 w.heap.size (fun _ => True) v107 y106) := ⟨h0_⟩
                 have n1_ : Aside0 (w12.heap[gb101]? = some (.cells #[.int .i64 0, .int .i64 0, .slice none 0 0] 34 (0, 0))) := ⟨h1_⟩
                 have n2_ : Aside0 (Qad w0 w12 g s0_0 s0_1) := ⟨h2_⟩
                 have n3_ : Aside0 (Qai w w12 g none) := ⟨h3_⟩
                 have n4_ : Aside0 (Below w0.heap.size w0 w12) := ⟨h4_⟩
                 clear BK101
                 clear HI0
                 clear HK
                 clear HB
                 clear h0_ h1_ h2_ h3_ h4_
                 have HO108 := n0_
                 have BK101 := n1_
                 have HI0 := n2_
                 have HK := n3_
                 have HB := n4_
                 clear n0_ n1_ n2_ n3_ n4_
                 have hHeld : w12.cell? (ad102.add (a2).toNat) = some (.int .i64 (rd l1 a2)) ∧ w12.cell? (ad102.add (a2).toNat) = some (.int .i64 (rd l1 a2)) := hS_
                 refine Qbo (a' := ?_) ?_ ?_
                 rotate_left
                 · simp only [Qbq, Act.put, List.setIfInBounds_toArray, List.set_cons_zero, List.set_cons_succ]
                   rfl
                 refine two_ (i := 9) (j := 14) (Ni := some 20) (Nj := some 7) #[true, true, true, true, true, true, true, true, true, true, false, false, true, false, false, false] #[true, true, true, true, true, true, true, true, true, false, false, false, true, false, true, false] rfl rfl rfl rfl (two_of HT_.out (by kernel_rfl)) (by decide) (by decide) (fun K hK => ?_) (fun K hK => ?_)
                 · skip
                   refine goes_ Try.func55 (by kernel_rfl) rfl #[.pointer (some ⟨g, 0, none⟩), .int .i64 3] (by rfl) rfl rfl (by (try simp only [List.map_toArray, List.map_cons, List.map_nil]); first | done | rfl | (simp only [List.length_drop, List.length_take]; rfl)) ?_
                   with_reducible refine (Qab.calls k g s0_0 s0_1 3 t104 t105 w0 _ ?side1 ?side2 A6.out).mono ?_
                   (case side1 => repeat (first | (with_reducible first | exact HI0.out | apply Qad.alloc | apply Qad.drewN | apply Qad.drew | apply Qad.set_1 | refine Qad.far ?_ NB0_101.out _) | exact HI0.out))
                   (case side2 => repeat (first | (with_reducible first | exact HB.out | apply Qal | apply Qar | apply Qav | refine Qaw ?_ (Qad.ge HI0.out) | refine Qaw ?_ GE101.out) | exact HB.out))
                   rintro e w13 ⟨rfl, hi, hb, hk⟩
                   refine ⟨_, rfl, ?_⟩
                   have n0_ := Aside0.mk (Qai.blk hk (g' := gb101) (o := .cells #[.int .i64 0, .int .i64 0, .slice none 0 0] 34 (0, 0)) (by (refine kb_ ?_); exact BK101.out) NB101_0.out (by simp))
                   have n1_ := Aside0.mk (Kd.R_mono (Kd.R_keep (Qad.apart (show Qad w0 _ g s0_0 s0_1 from ki_) (by (refine QaP ?_); exact HO108.out) (by decide)) hk (fun _ h => h.2)) (fun _ h => h.1))
                   have n2_ := Aside0.mk (Qai.trans (kk_) hk (.inl rfl))
                   have n3_ := Aside0.mk (hb)
                   have n4_ := Aside0.mk (hi)
                   clear BK101
                   clear HO108
                   clear HK
                   clear HB
                   clear HI0
                   have BK101 := n0_
                   have HO108 := n1_
                   have HK := n2_
                   have HB := n3_
                   have HI0 := n4_
                   clear n0_ n1_ n2_ n3_ n4_
                   (try clear hb)
                   (try clear hb2)
                   (try clear hk)
                   (try clear hi)
                   obtain ⟨Ao14, co14, eo14⟩ := Kd.R_slice HO108.out
                   (first | subst eo14 | (injection eo14 with f1_ f2_ f3_; have f4_ := f1_.symm; have f5_ := f3_.symm; clear f1_ f2_ f3_; subst f4_; subst f5_))
                   refine hK.out _ _ ⟨(Qa6 HK.out hw102_0 hne102_0), (Qa6 HK.out hw103_0 hne103_0)⟩ (fun hHeld => ?_)
                   clear hK K
                   refine Qbo (a' := ?_) ?_ ?_
                   rotate_left
                   · show Act.put _ (some 20) _ = _
                     simp only [Act.put, List.setIfInBounds_toArray, List.set_cons_zero, List.set_cons_succ, Qbb, Qbd]
                     rfl
                   refine pu_ 10 (some 21) #[true, true, true, true, true, true, true, true, true, true, true, false, true, false, false, false] rfl rfl ?_
                   refine pu_ 11 (some 22) #[true, true, true, true, true, true, true, true, true, true, true, true, true, false, false, false] rfl rfl ?_
                   refine pu_ 13 (some 24) #[true, true, true, true, true, true, true, true, true, true, true, true, true, true, false, false] rfl rfl ?_
                   exact Qbo (by first | (simp only [Qbq, Act.put, List.setIfInBounds_toArray, List.set_cons_zero, List.set_cons_succ]; done) | (simp only [Qbq, Act.put, List.setIfInBounds_toArray, List.set_cons_zero, List.set_cons_succ]; rfl)) (hJ9_12 (.slice Ao14 y106.length co14) _ ⟨hHeld, (by (refine QaP ?_); exact HO108.out), (by (refine kb_ ?_); exact BK101.out), (ki_), (kk_), (bx_)⟩)
                 · skip
                   refine box_step ?hg (N := 7) ?hd (cs := #[.int .i64 0, .int .i64 0, .slice none 0 0]) (t := 34) ?hr ?_; (case hd => rfl); (case hg => rfl); (case hr => first | (go_simp; done) | (go_simp; rfl))
                   intro gb109 hg w13 hbox hb
                   have n0_ := Aside0.mk (Kd.R_below (by (refine QaP ?_); exact HO108.out) hb)
                   have n1_ := Aside0.mk (Qad.below (ki_) hb)
                   have n2_ := Aside0.mk (bb_ BK101 hb)
                   have n3_ := Aside0.mk (Qai.trans (kk_) (Qai.of_below hb g none) (.inl rfl))
                   have n4_ := Aside0.mk (Qap (bx_) hb)
                   have n5_ := Aside0.mk (hbox)
                   have n6_ := Aside0.mk ((by rw [hg]; exact (QaC (w := w) (g := g) (row := none) (kk_)) : w.heap.size ≤ gb109))
                   have n7_ := Aside0.mk ((Nat.le_trans HW0.out (by rw [hg]; exact (QaC (w := w) (g := g) (row := none) (kk_)) : w.heap.size ≤ gb109) : w0.heap.size ≤ gb109))
                   have n8_ := Aside0.mk ((nl_ hg BK101 : gb101 ≠ gb109))
                   have n9_ := Aside0.mk ((ng_ hg BK101 : gb109 ≠ gb101))
                   have n10_ := Aside0.mk ((by rw [hg]; exact Nat.ne_of_lt (Qad.lt (show Qad w0 _ g s0_0 s0_1 from ki_)) : g ≠ gb109))
                   have n11_ := Aside0.mk ((by rw [hg]; exact Nat.ne_of_gt (Qad.lt (show Qad w0 _ g s0_0 s0_1 from ki_)) : gb109 ≠ g))
                   clear HO108
                   clear HI0
                   clear BK101
                   clear HK
                   clear HB
                   have HO108 := n0_
                   have HI0 := n1_
                   have BK101 := n2_
                   have HK := n3_
                   have HB := n4_
                   have BK109 := n5_
                   have GW109 := n6_
                   have GE109 := n7_
                   have NB101_109 := n8_
                   have NB109_101 := n9_
                   have NB0_109 := n10_
                   have NB109_0 := n11_
                   clear n0_ n1_ n2_ n3_ n4_ n5_ n6_ n7_ n8_ n9_ n10_ n11_
                   clear hb hbox hg
                   refine hK.out _ _ ⟨(Qa6 HK.out hw102_0 hne102_0), (Qa6 HK.out hw103_0 hne103_0)⟩ (fun hHeld => ?_)
                   clear hK K
                   refine Qbo (a' := ?_) ?_ ?_
                   rotate_left
                   · show Act.put _ (some 7) _ = _
                     simp only [Act.put, List.setIfInBounds_toArray, List.set_cons_zero, List.set_cons_succ, Qbb, Qbd]
                     rfl
                   exact Qbo (by first | (simp only [Qbq, Act.put, List.setIfInBounds_toArray, List.set_cons_zero, List.set_cons_succ]; done) | (simp only [Qbq, Act.put, List.setIfInBounds_toArray, List.set_cons_zero, List.set_cons_succ]; rfl)) (hJ12_14 (v107, gb109) _ ⟨hHeld, (by (refine QaP ?_); exact HO108.out), (by (refine kb_ ?_); exact BK101.out), (by (refine kb_ ?_); exact BK109.out), GW109.out, GE109.out, NB0_109.out, NB109_0.out, NB101_109.out, NB109_101.out, (ki_), (kk_), (bx_)⟩)
             · skip
               rintro _ w11 ⟨hS_, h0_, h1_, h2_, h3_⟩
               have n0_ : Aside0 (w11.heap[gb101]? = some (.cells #[.int .i64 0, .int .i64 0, .slice none 0 0] 34 (0, 0))) := ⟨h0_⟩
               have n1_ : Aside0 (Qad w0 w11 g s0_0 t105) := ⟨h1_⟩
               have n2_ : Aside0 (Qai w w11 g none) := ⟨h2_⟩
               have n3_ : Aside0 (Below w0.heap.size w0 w11) := ⟨h3_⟩
               clear BK101
               clear HI0
               clear HK
               clear HB
               clear h0_ h1_ h2_ h3_
               have BK101 := n0_
               have HI0 := n1_
               have HK := n2_
               have HB := n3_
               clear n0_ n1_ n2_ n3_
               have hHeld : w11.cell? (ad102.add (a2).toNat) = some (.int .i64 (rd l1 a2)) ∧ w11.cell? (ad102.add (a2).toNat) = some (.int .i64 (rd l1 a2)) := hS_
               refine Qbo (a' := ?_) ?_ ?_
               rotate_left
               · simp only [Qbq, Act.put, List.setIfInBounds_toArray, List.set_cons_zero, List.set_cons_succ]
                 rfl
               refine two_ (i := 12) (j := 14) (Ni := some 23) (Nj := some 7) #[true, true, true, true, true, true, true, true, true, true, true, true, true, false, false, false] #[true, true, true, true, true, true, true, true, true, true, true, true, false, false, true, false] rfl rfl rfl rfl (two_of HT_.out (by kernel_rfl)) (by decide) (by decide) (fun K hK => ?_) (fun K hK => ?_)
               · skip
                 refine Kd.R_lit_step QaB _ 83 ?hg (N := 23) ?hd (xs := ([] : List (Qac))) (inner := []) (ok := fun _ => True) (okp := fun _ => True) ?hr ?hp (fun _ hk => hk) trivial (Below.refl _ _) (Nat.le_refl _) (by simp) ?_; (case hd => rfl); (case hg => rfl); (case hr => first | (go_simp; done) | (go_simp; rfl)); (case hp => exact (Qa9.none _ _))
                 intro v107 w12 ho13 hb hg_ hnew_
                 clear hg_ hnew_
                 (first | rw [← Ny106.out] at ho13 | (simp only [Int.reduceToNat] at ho13; rw [← Ny106.out] at ho13))
                 have n0_ := Aside0.mk (Kd.R_lower ho13 (QaC (w := w) (g := g) (row := none) (kk_)))
                 have n1_ := Aside0.mk (Qad.below (ki_) hb)
                 have n2_ := Aside0.mk (bb_ BK101 hb)
                 have n3_ := Aside0.mk (Qai.trans (kk_) (Qai.of_below hb g none) (.inl rfl))
                 have n4_ := Aside0.mk (Qap (bx_) hb)
                 clear HI0
                 clear BK101
                 clear HK
                 clear HB
                 have HO108 := n0_
                 have HI0 := n1_
                 have BK101 := n2_
                 have HK := n3_
                 have HB := n4_
                 clear n0_ n1_ n2_ n3_ n4_
                 clear hb ho13
                 obtain ⟨Ao14, co14, eo14⟩ := Kd.R_slice HO108.out
                 (first | subst eo14 | (injection eo14 with f1_ f2_ f3_; have f4_ := f1_.symm; have f5_ := f3_.symm; clear f1_ f2_ f3_; subst f4_; subst f5_))
                 refine hK.out _ _ ⟨(Qa6 HK.out hw102_0 hne102_0), (Qa6 HK.out hw103_0 hne103_0)⟩ (fun hHeld => ?_)
                 clear hK K
                 refine Qbo (a' := ?_) ?_ ?_
                 rotate_left
                 · show Act.put _ (some 23) _ = _
                   simp only [Act.put, List.setIfInBounds_toArray, List.set_cons_zero, List.set_cons_succ, Qbb, Qbd]
                   rfl
                 refine pu_ 13 (some 24) #[true, true, true, true, true, true, true, true, true, true, true, true, true, true, false, false] rfl rfl ?_
                 exact Qbo (by first | (simp only [Qbq, Act.put, List.setIfInBounds_toArray, List.set_cons_zero, List.set_cons_succ]; done) | (simp only [Qbq, Act.put, List.setIfInBounds_toArray, List.set_cons_zero, List.set_cons_succ]; rfl)) (hJ9_12 (.slice Ao14 y106.length co14) _ ⟨hHeld, (by (refine QaP ?_); exact HO108.out), (by (refine kb_ ?_); exact BK101.out), (ki_), (kk_), (bx_)⟩)
               · skip
                 refine box_step ?hg (N := 7) ?hd (cs := #[.int .i64 0, .int .i64 0, .slice none 0 0]) (t := 34) ?hr ?_; (case hd => rfl); (case hg => rfl); (case hr => first | (go_simp; done) | (go_simp; rfl))
                 intro gb109 hg w12 hbox hb
                 have n0_ := Aside0.mk (Qad.below (ki_) hb)
                 have n1_ := Aside0.mk (bb_ BK101 hb)
                 have n2_ := Aside0.mk (Qai.trans (kk_) (Qai.of_below hb g none) (.inl rfl))
                 have n3_ := Aside0.mk (Qap (bx_) hb)
                 have n4_ := Aside0.mk (hbox)
                 have n5_ := Aside0.mk ((by rw [hg]; exact (QaC (w := w) (g := g) (row := none) (kk_)) : w.heap.size ≤ gb109))
                 have n6_ := Aside0.mk ((Nat.le_trans HW0.out (by rw [hg]; exact (QaC (w := w) (g := g) (row := none) (kk_)) : w.heap.size ≤ gb109) : w0.heap.size ≤ gb109))
                 have n7_ := Aside0.mk ((nl_ hg BK101 : gb101 ≠ gb109))
                 have n8_ := Aside0.mk ((ng_ hg BK101 : gb109 ≠ gb101))
                 have n9_ := Aside0.mk ((by rw [hg]; exact Nat.ne_of_lt (Qad.lt (show Qad w0 _ g s0_0 t105 from ki_)) : g ≠ gb109))
                 have n10_ := Aside0.mk ((by rw [hg]; exact Nat.ne_of_gt (Qad.lt (show Qad w0 _ g s0_0 t105 from ki_)) : gb109 ≠ g))
                 clear HI0
                 clear BK101
                 clear HK
                 clear HB
                 have HI0 := n0_
                 have BK101 := n1_
                 have HK := n2_
                 have HB := n3_
                 have BK109 := n4_
                 have GW109 := n5_
                 have GE109 := n6_
                 have NB101_109 := n7_
                 have NB109_101 := n8_
                 have NB0_109 := n9_
                 have NB109_0 := n10_
                 clear n0_ n1_ n2_ n3_ n4_ n5_ n6_ n7_ n8_ n9_ n10_
                 clear hb hbox hg
                 refine hK.out _ _ ⟨(Qa6 HK.out hw102_0 hne102_0), (Qa6 HK.out hw103_0 hne103_0)⟩ (fun hHeld => ?_)
                 clear hK K
                 refine Qbo (a' := ?_) ?_ ?_
                 rotate_left
                 · show Act.put _ (some 7) _ = _
                   simp only [Act.put, List.setIfInBounds_toArray, List.set_cons_zero, List.set_cons_succ, Qbb, Qbd]
                   rfl
                 exact Qbo (by first | (simp only [Qbq, Act.put, List.setIfInBounds_toArray, List.set_cons_zero, List.set_cons_succ]; done) | (simp only [Qbq, Act.put, List.setIfInBounds_toArray, List.set_cons_zero, List.set_cons_succ]; rfl)) (hJ9_14 (gb109) _ ⟨hHeld, (by (refine kb_ ?_); exact BK101.out), (by (refine kb_ ?_); exact BK109.out), GW109.out, GE109.out, NB0_109.out, NB109_0.out, NB101_109.out, NB109_101.out, (ki_), (kk_), (bx_)⟩)
           · skip
             rintro ⟨v107, gb109⟩ w13 ⟨hS_, h0_, h1_, h2_, h3_, h4_, h5_, h6_, h7_, h8_, h9_, h10_, h11_⟩
             have n0_ : Aside0 (Kd.R QaB 83 w13 w.heap.size (fun _ => True) v107 y106) := ⟨h0_⟩
             have n1_ : Aside0 (w13.heap[gb101]? = some (.cells #[.int .i64 0, .int .i64 0, .slice none 0 0] 34 (0, 0))) := ⟨h1_⟩
             have n2_ : Aside0 (w13.heap[gb109]? = some (.cells #[.int .i64 0, .int .i64 0, .slice none 0 0] 34 (0, 0))) := ⟨h2_⟩
             have n3_ : Aside0 (w.heap.size ≤ gb109) := ⟨h3_⟩
             have n4_ : Aside0 (w0.heap.size ≤ gb109) := ⟨h4_⟩
             have n5_ : Aside0 (g ≠ gb109) := ⟨h5_⟩
             have n6_ : Aside0 (gb109 ≠ g) := ⟨h6_⟩
             have n7_ : Aside0 (gb101 ≠ gb109) := ⟨h7_⟩
             have n8_ : Aside0 (gb109 ≠ gb101) := ⟨h8_⟩
             have n9_ : Aside0 (Qad w0 w13 g s0_0 s0_1) := ⟨h9_⟩
             have n10_ : Aside0 (Qai w w13 g none) := ⟨h10_⟩
             have n11_ : Aside0 (Below w0.heap.size w0 w13) := ⟨h11_⟩
             clear BK101
             clear HI0
             clear HK
             clear HB
             clear h0_ h1_ h2_ h3_ h4_ h5_ h6_ h7_ h8_ h9_ h10_ h11_
             have HO108 := n0_
             have BK101 := n1_
             have BK109 := n2_
             have GW109 := n3_
             have GE109 := n4_
             have NB0_109 := n5_
             have NB109_0 := n6_
             have NB101_109 := n7_
             have NB109_101 := n8_
             have HI0 := n9_
             have HK := n10_
             have HB := n11_
             clear n0_ n1_ n2_ n3_ n4_ n5_ n6_ n7_ n8_ n9_ n10_ n11_
             have hHeld : w13.cell? (ad102.add (a2).toNat) = some (.int .i64 (rd l1 a2)) ∧ w13.cell? (ad102.add (a2).toNat) = some (.int .i64 (rd l1 a2)) := hS_
             refine Qbo (a' := ?_) ?_ ?_
             rotate_left
             · simp only [Qbq, Act.put, List.setIfInBounds_toArray, List.set_cons_zero, List.set_cons_succ]
               rfl
             refine one_ (i := 9) (N := some 20) #[true, true, true, true, true, true, true, true, true, true, false, false, true, false, true, false] rfl rfl (Qbw HT_.out (by kernel_rfl)) (by decide) (fun K hK => ?_)
             refine goes_ Try.func55 (by kernel_rfl) rfl #[.pointer (some ⟨g, 0, none⟩), .int .i64 3] (by rfl) rfl rfl (by (try simp only [List.map_toArray, List.map_cons, List.map_nil]); first | done | rfl | (simp only [List.length_drop, List.length_take]; rfl)) ?_
             with_reducible refine (Qab.calls k g s0_0 s0_1 3 t104 t105 w0 _ ?side1 ?side2 A6.out).mono ?_
             (case side1 => repeat (first | (with_reducible first | exact HI0.out | apply Qad.alloc | apply Qad.drewN | apply Qad.drew | apply Qad.set_1 | refine Qad.far ?_ NB0_101.out _ | refine Qad.far ?_ NB0_109.out _) | exact HI0.out))
             (case side2 => repeat (first | (with_reducible first | exact HB.out | apply Qal | apply Qar | apply Qav | refine Qaw ?_ (Qad.ge HI0.out) | refine Qaw ?_ GE101.out | refine Qaw ?_ GE109.out) | exact HB.out))
             rintro e w14 ⟨rfl, hi, hb, hk⟩
             refine ⟨_, rfl, ?_⟩
             have n0_ := Aside0.mk (Qai.blk hk (g' := gb101) (o := .cells #[.int .i64 0, .int .i64 0, .slice none 0 0] 34 (0, 0)) (by (refine kb_ ?_); exact BK101.out) NB101_0.out (by simp))
             have n1_ := Aside0.mk (Kd.R_mono (Kd.R_keep (Qad.apart (show Qad w0 _ g s0_0 s0_1 from ki_) (by (refine QaP ?_); exact HO108.out) (by decide)) hk (fun _ h => h.2)) (fun _ h => h.1))
             have n2_ := Aside0.mk (Qai.blk hk (g' := gb109) (o := .cells #[.int .i64 0, .int .i64 0, .slice none 0 0] 34 (0, 0)) (by (refine kb_ ?_); exact BK109.out) NB109_0.out (by simp))
             have n3_ := Aside0.mk (Qai.trans (kk_) hk (.inl rfl))
             have n4_ := Aside0.mk (hb)
             have n5_ := Aside0.mk (hi)
             clear BK101
             clear HO108
             clear BK109
             clear HK
             clear HB
             clear HI0
             have BK101 := n0_
             have HO108 := n1_
             have BK109 := n2_
             have HK := n3_
             have HB := n4_
             have HI0 := n5_
             clear n0_ n1_ n2_ n3_ n4_ n5_
             (try clear hb)
             (try clear hb2)
             (try clear hk)
             (try clear hi)
             obtain ⟨Ao15, co15, eo15⟩ := Kd.R_slice HO108.out
             (first | subst eo15 | (injection eo15 with f1_ f2_ f3_; have f4_ := f1_.symm; have f5_ := f3_.symm; clear f1_ f2_ f3_; subst f4_; subst f5_))
             refine hK.out _ _ ⟨(Qa6 HK.out hw102_0 hne102_0), (Qa6 HK.out hw103_0 hne103_0)⟩ (fun hHeld => ?_)
             clear hK K
             refine Qbo (a' := ?_) ?_ ?_
             rotate_left
             · show Act.put _ (some 20) _ = _
               simp only [Act.put, List.setIfInBounds_toArray, List.set_cons_zero, List.set_cons_succ, Qbb, Qbd]
               rfl
             refine pu_ 10 (some 21) #[true, true, true, true, true, true, true, true, true, true, true, false, true, false, true, false] rfl rfl ?_
             refine pu_ 11 (some 22) #[true, true, true, true, true, true, true, true, true, true, true, true, true, false, true, false] rfl rfl ?_
             refine pu_ 13 (some 24) #[true, true, true, true, true, true, true, true, true, true, true, true, true, true, true, false] rfl rfl ?_
             exact Qbo (by first | (simp only [Qbq, Act.put, List.setIfInBounds_toArray, List.set_cons_zero, List.set_cons_succ]; done) | (simp only [Qbq, Act.put, List.setIfInBounds_toArray, List.set_cons_zero, List.set_cons_succ]; rfl)) (hJ9_12_14 (.slice Ao15 y106.length co15, gb109) _ ⟨hHeld, (by (refine QaP ?_); exact HO108.out), (by (refine kb_ ?_); exact BK101.out), (by (refine kb_ ?_); exact BK109.out), GW109.out, GE109.out, NB0_109.out, NB109_0.out, NB101_109.out, NB109_101.out, (ki_), (kk_), (bx_)⟩)
         · skip
           rintro gb109 w12 ⟨hS_, h0_, h1_, h2_, h3_, h4_, h5_, h6_, h7_, h8_, h9_, h10_⟩
           have n0_ : Aside0 (w12.heap[gb101]? = some (.cells #[.int .i64 0, .int .i64 0, .slice none 0 0] 34 (0, 0))) := ⟨h0_⟩
           have n1_ : Aside0 (w12.heap[gb109]? = some (.cells #[.int .i64 0, .int .i64 0, .slice none 0 0] 34 (0, 0))) := ⟨h1_⟩
           have n2_ : Aside0 (w.heap.size ≤ gb109) := ⟨h2_⟩
           have n3_ : Aside0 (w0.heap.size ≤ gb109) := ⟨h3_⟩
           have n4_ : Aside0 (g ≠ gb109) := ⟨h4_⟩
           have n5_ : Aside0 (gb109 ≠ g) := ⟨h5_⟩
           have n6_ : Aside0 (gb101 ≠ gb109) := ⟨h6_⟩
           have n7_ : Aside0 (gb109 ≠ gb101) := ⟨h7_⟩
           have n8_ : Aside0 (Qad w0 w12 g s0_0 t105) := ⟨h8_⟩
           have n9_ : Aside0 (Qai w w12 g none) := ⟨h9_⟩
           have n10_ : Aside0 (Below w0.heap.size w0 w12) := ⟨h10_⟩
           clear BK101
           clear HI0
           clear HK
           clear HB
           clear h0_ h1_ h2_ h3_ h4_ h5_ h6_ h7_ h8_ h9_ h10_
           have BK101 := n0_
           have BK109 := n1_
           have GW109 := n2_
           have GE109 := n3_
           have NB0_109 := n4_
           have NB109_0 := n5_
           have NB101_109 := n6_
           have NB109_101 := n7_
           have HI0 := n8_
           have HK := n9_
           have HB := n10_
           clear n0_ n1_ n2_ n3_ n4_ n5_ n6_ n7_ n8_ n9_ n10_
           have hHeld : w12.cell? (ad102.add (a2).toNat) = some (.int .i64 (rd l1 a2)) ∧ w12.cell? (ad102.add (a2).toNat) = some (.int .i64 (rd l1 a2)) := hS_
           refine Qbo (a' := ?_) ?_ ?_
           rotate_left
           · simp only [Qbq, Act.put, List.setIfInBounds_toArray, List.set_cons_zero, List.set_cons_succ]
             rfl
           refine one_ (i := 12) (N := some 23) #[true, true, true, true, true, true, true, true, true, true, true, true, true, false, true, false] rfl rfl (Qbw HT_.out (by kernel_rfl)) (by decide) (fun K hK => ?_)
           refine Kd.R_lit_step QaB _ 83 ?hg (N := 23) ?hd (xs := ([] : List (Qac))) (inner := []) (ok := fun _ => True) (okp := fun _ => True) ?hr ?hp (fun _ hk => hk) trivial (Below.refl _ _) (Nat.le_refl _) (by simp) ?_; (case hd => rfl); (case hg => rfl); (case hr => first | (go_simp; done) | (go_simp; rfl)); (case hp => exact (Qa9.none _ _))
           intro v107 w13 ho14 hb hg_ hnew_
           clear hg_ hnew_
           (first | rw [← Ny106.out] at ho14 | (simp only [Int.reduceToNat] at ho14; rw [← Ny106.out] at ho14))
           have n0_ := Aside0.mk (Kd.R_lower ho14 (QaC (w := w) (g := g) (row := none) (kk_)))
           have n1_ := Aside0.mk (Qad.below (ki_) hb)
           have n2_ := Aside0.mk (bb_ BK101 hb)
           have n3_ := Aside0.mk (bb_ BK109 hb)
           have n4_ := Aside0.mk (Qai.trans (kk_) (Qai.of_below hb g none) (.inl rfl))
           have n5_ := Aside0.mk (Qap (bx_) hb)
           clear HI0
           clear BK101
           clear BK109
           clear HK
           clear HB
           have HO108 := n0_
           have HI0 := n1_
           have BK101 := n2_
           have BK109 := n3_
           have HK := n4_
           have HB := n5_
           clear n0_ n1_ n2_ n3_ n4_ n5_
           clear hb ho14
           obtain ⟨Ao15, co15, eo15⟩ := Kd.R_slice HO108.out
           (first | subst eo15 | (injection eo15 with f1_ f2_ f3_; have f4_ := f1_.symm; have f5_ := f3_.symm; clear f1_ f2_ f3_; subst f4_; subst f5_))
           refine hK.out _ _ ⟨(Qa6 HK.out hw102_0 hne102_0), (Qa6 HK.out hw103_0 hne103_0)⟩ (fun hHeld => ?_)
           clear hK K
           refine Qbo (a' := ?_) ?_ ?_
           rotate_left
           · show Act.put _ (some 23) _ = _
             simp only [Act.put, List.setIfInBounds_toArray, List.set_cons_zero, List.set_cons_succ, Qbb, Qbd]
             rfl
           refine pu_ 13 (some 24) #[true, true, true, true, true, true, true, true, true, true, true, true, true, true, true, false] rfl rfl ?_
           exact Qbo (by first | (simp only [Qbq, Act.put, List.setIfInBounds_toArray, List.set_cons_zero, List.set_cons_succ]; done) | (simp only [Qbq, Act.put, List.setIfInBounds_toArray, List.set_cons_zero, List.set_cons_succ]; rfl)) (hJ9_12_14 (.slice Ao15 y106.length co15, gb109) _ ⟨hHeld, (by (refine QaP ?_); exact HO108.out), (by (refine kb_ ?_); exact BK101.out), (by (refine kb_ ?_); exact BK109.out), GW109.out, GE109.out, NB0_109.out, NB109_0.out, NB101_109.out, NB109_101.out, (ki_), (kk_), (bx_)⟩)
       · skip
         rintro v107 w14 ⟨hS_, h0_, h1_, h2_, h3_, h4_⟩
         have n0_ : Aside0 (Kd.R QaB 83 w14 w.heap.size (fun _ => True) v107 y106) := ⟨h0_⟩
         have n1_ : Aside0 (w14.heap[gb101]? = some (.cells #[.int .i64 0, .int .i64 0, .slice none 0 0] 34 (0, 0))) := ⟨h1_⟩
         have n2_ : Aside0 (Qad w0 w14 g s0_0 t105) := ⟨h2_⟩
         have n3_ : Aside0 (Qai w w14 g none) := ⟨h3_⟩
         have n4_ : Aside0 (Below w0.heap.size w0 w14) := ⟨h4_⟩
         clear BK101
         clear HI0
         clear HK
         clear HB
         clear h0_ h1_ h2_ h3_ h4_
         have HO108 := n0_
         have BK101 := n1_
         have HI0 := n2_
         have HK := n3_
         have HB := n4_
         clear n0_ n1_ n2_ n3_ n4_
         have hHeld : w14.cell? (ad102.add (a2).toNat) = some (.int .i64 (rd l1 a2)) ∧ w14.cell? (ad102.add (a2).toNat) = some (.int .i64 (rd l1 a2)) := hS_
         obtain ⟨Ao15, co15, eo15⟩ := Kd.R_slice HO108.out
         (first | subst eo15 | (injection eo15 with f1_ f2_ f3_; have f4_ := f1_.symm; have f5_ := f3_.symm; clear f1_ f2_ f3_; subst f4_; subst f5_))
         refine Qbo (a' := ?_) ?_ ?_
         rotate_left
         · simp only [Qbq, Act.put, List.setIfInBounds_toArray, List.set_cons_zero, List.set_cons_succ]
           rfl
         refine one_ (i := 14) (N := some 7) #[true, true, true, true, true, true, true, true, true, true, true, true, true, true, true, false] rfl rfl (Qbw HT_.out (by kernel_rfl)) (by decide) (fun K hK => ?_)
         refine box_step ?hg (N := 7) ?hd (cs := #[.int .i64 0, .int .i64 0, .slice none 0 0]) (t := 34) ?hr ?_; (case hd => rfl); (case hg => rfl); (case hr => first | (go_simp; done) | (go_simp; rfl))
         intro gb109 hg w16 hbox hb
         have n0_ := Aside0.mk (Kd.R_below (by (refine QaP ?_); exact HO108.out) hb)
         have n1_ := Aside0.mk (Qad.below (ki_) hb)
         have n2_ := Aside0.mk (bb_ BK101 hb)
         have n3_ := Aside0.mk (Qai.trans (kk_) (Qai.of_below hb g none) (.inl rfl))
         have n4_ := Aside0.mk (Qap (bx_) hb)
         have n5_ := Aside0.mk (hbox)
         have n6_ := Aside0.mk ((by rw [hg]; exact (QaC (w := w) (g := g) (row := none) (kk_)) : w.heap.size ≤ gb109))
         have n7_ := Aside0.mk ((Nat.le_trans HW0.out (by rw [hg]; exact (QaC (w := w) (g := g) (row := none) (kk_)) : w.heap.size ≤ gb109) : w0.heap.size ≤ gb109))
         have n8_ := Aside0.mk ((nl_ hg BK101 : gb101 ≠ gb109))
         have n9_ := Aside0.mk ((ng_ hg BK101 : gb109 ≠ gb101))
         have n10_ := Aside0.mk ((by rw [hg]; exact Nat.ne_of_lt (Qad.lt (show Qad w0 _ g s0_0 t105 from ki_)) : g ≠ gb109))
         have n11_ := Aside0.mk ((by rw [hg]; exact Nat.ne_of_gt (Qad.lt (show Qad w0 _ g s0_0 t105 from ki_)) : gb109 ≠ g))
         clear HO108
         clear HI0
         clear BK101
         clear HK
         clear HB
         have HO108 := n0_
         have HI0 := n1_
         have BK101 := n2_
         have HK := n3_
         have HB := n4_
         have BK109 := n5_
         have GW109 := n6_
         have GE109 := n7_
         have NB101_109 := n8_
         have NB109_101 := n9_
         have NB0_109 := n10_
         have NB109_0 := n11_
         clear n0_ n1_ n2_ n3_ n4_ n5_ n6_ n7_ n8_ n9_ n10_ n11_
         clear hb hbox hg
         refine hK.out _ _ ⟨(Qa6 HK.out hw102_0 hne102_0), (Qa6 HK.out hw103_0 hne103_0)⟩ (fun hHeld => ?_)
         clear hK K
         refine Qbo (a' := ?_) ?_ ?_
         rotate_left
         · show Act.put _ (some 7) _ = _
           simp only [Act.put, List.setIfInBounds_toArray, List.set_cons_zero, List.set_cons_succ, Qbb, Qbd]
           rfl
         exact Qbo (by first | (simp only [Qbq, Act.put, List.setIfInBounds_toArray, List.set_cons_zero, List.set_cons_succ]; done) | (simp only [Qbq, Act.put, List.setIfInBounds_toArray, List.set_cons_zero, List.set_cons_succ]; rfl)) (hJ9_12_14 (.slice Ao15 y106.length co15, gb109) _ ⟨hHeld, (by (refine QaP ?_); exact HO108.out), (by (refine kb_ ?_); exact BK101.out), (by (refine kb_ ?_); exact BK109.out), GW109.out, GE109.out, NB0_109.out, NB109_0.out, NB101_109.out, NB109_101.out, (ki_), (kk_), (bx_)⟩)
     rintro ⟨v107, gb109⟩ w15 ⟨hS_, h0_, h1_, h2_, h3_, h4_, h5_, h6_, h7_, h8_, h9_, h10_, h11_⟩
     have n0_ : Aside0 (Kd.R QaB 83 w15 w.heap.size (fun _ => True) v107 y106) := ⟨h0_⟩
     have n1_ : Aside0 (w15.heap[gb101]? = some (.cells #[.int .i64 0, .int .i64 0, .slice none 0 0] 34 (0, 0))) := ⟨h1_⟩
     have n2_ : Aside0 (w15.heap[gb109]? = some (.cells #[.int .i64 0, .int .i64 0, .slice none 0 0] 34 (0, 0))) := ⟨h2_⟩
     have n3_ : Aside0 (w.heap.size ≤ gb109) := ⟨h3_⟩
     have n4_ : Aside0 (w0.heap.size ≤ gb109) := ⟨h4_⟩
     have n5_ : Aside0 (g ≠ gb109) := ⟨h5_⟩
     have n6_ : Aside0 (gb109 ≠ g) := ⟨h6_⟩
     have n7_ : Aside0 (gb101 ≠ gb109) := ⟨h7_⟩
     have n8_ : Aside0 (gb109 ≠ gb101) := ⟨h8_⟩
     have n9_ : Aside0 (Qad w0 w15 g s0_0 t105) := ⟨h9_⟩
     have n10_ : Aside0 (Qai w w15 g none) := ⟨h10_⟩
     have n11_ : Aside0 (Below w0.heap.size w0 w15) := ⟨h11_⟩
     clear BK101
     clear HI0
     clear HK
     clear HB
     clear h0_ h1_ h2_ h3_ h4_ h5_ h6_ h7_ h8_ h9_ h10_ h11_
     have HO108 := n0_
     have BK101 := n1_
     have BK109 := n2_
     have GW109 := n3_
     have GE109 := n4_
     have NB0_109 := n5_
     have NB109_0 := n6_
     have NB101_109 := n7_
     have NB109_101 := n8_
     have HI0 := n9_
     have HK := n10_
     have HB := n11_
     clear n0_ n1_ n2_ n3_ n4_ n5_ n6_ n7_ n8_ n9_ n10_ n11_
     have hHeld : w15.cell? (ad102.add (a2).toNat) = some (.int .i64 (rd l1 a2)) ∧ w15.cell? (ad102.add (a2).toNat) = some (.int .i64 (rd l1 a2)) := hS_
     obtain ⟨Ao16, co16, eo16⟩ := Kd.R_slice HO108.out
     (first | subst eo16 | (injection eo16 with f1_ f2_ f3_; have f4_ := f1_.symm; have f5_ := f3_.symm; clear f1_ f2_ f3_; subst f4_; subst f5_))
     refine Qbo (a' := ?_) ?_ ?_
     rotate_left
     · simp only [Qbq, Act.put, List.setIfInBounds_toArray, List.set_cons_zero, List.set_cons_succ]
       rfl
     refine one_ (i := 15) (N := none) #[true, true, true, true, true, true, true, true, true, true, true, true, true, true, true, true] rfl rfl (Qbw HT_.out (by kernel_rfl)) (by decide) (fun K hK => ?_)
     have hs17 : w15.cell? ⟨gb109, 0, none⟩ = some (.int .i64 0) := (Qaf BK109.out 0).trans rfl
     have hfs17 := Qaj BK109.out 0
     have hns17_0 := NB101_109.out
     have hms17_0 := NB109_101.out
     have hs18 : w15.cell? ⟨gb109, 1, none⟩ = some (.int .i64 0) := (Qaf BK109.out 1).trans rfl
     have hfs18 := Qaj BK109.out 1
     have hns18_0 := NB101_109.out
     have hms18_0 := NB109_101.out
     have hs19 : w15.cell? ⟨gb109, 2, none⟩ = some (.slice none 0 0) := (Qaf BK109.out 2).trans rfl
     have hfs19 := Qaj BK109.out 2
     have hns19_0 := NB101_109.out
     have hms19_0 := NB109_101.out
     refine skip_ (w1 := ?_) (by rfl) rfl ?_ ?_
     rotate_left
     · go_simp
       rfl
     refine hK.out _ _ ⟨((cell_far (p := ⟨gb109, _, none⟩) (by first | exact Nat.ne_of_lt (Nat.lt_of_lt_of_le (by have := World.block_lt_of_cell? _ _ hw102_0; first | rwa [QaL] at this | exact this) GW109.out) | (rw [QaL]; exact Nat.ne_of_lt (Nat.lt_of_lt_of_le (by have := World.block_lt_of_cell? _ _ hw102_0; first | rwa [QaL] at this | exact this) GW109.out)) | (show (Addr.add _ _).block ≠ _; rw [QaL]; exact Nat.ne_of_lt (Nat.lt_of_lt_of_le (by have := World.block_lt_of_cell? _ _ hw102_0; first | rwa [QaL] at this | exact this) GW109.out)) | (dsimp only; exact Nat.ne_of_lt (Nat.lt_of_lt_of_le (by have := World.block_lt_of_cell? _ _ hw102_0; first | rwa [QaL] at this | exact this) GW109.out))) _).trans (((cell_far (p := ⟨gb109, _, none⟩) (by first | exact Nat.ne_of_lt (Nat.lt_of_lt_of_le (by have := World.block_lt_of_cell? _ _ hw102_0; first | rwa [QaL] at this | exact this) GW109.out) | (rw [QaL]; exact Nat.ne_of_lt (Nat.lt_of_lt_of_le (by have := World.block_lt_of_cell? _ _ hw102_0; first | rwa [QaL] at this | exact this) GW109.out)) | (show (Addr.add _ _).block ≠ _; rw [QaL]; exact Nat.ne_of_lt (Nat.lt_of_lt_of_le (by have := World.block_lt_of_cell? _ _ hw102_0; first | rwa [QaL] at this | exact this) GW109.out)) | (dsimp only; exact Nat.ne_of_lt (Nat.lt_of_lt_of_le (by have := World.block_lt_of_cell? _ _ hw102_0; first | rwa [QaL] at this | exact this) GW109.out))) _).trans (((cell_far (p := ⟨gb109, _, none⟩) (by first | exact Nat.ne_of_lt (Nat.lt_of_lt_of_le (by have := World.block_lt_of_cell? _ _ hw102_0; first | rwa [QaL] at this | exact this) GW109.out) | (rw [QaL]; exact Nat.ne_of_lt (Nat.lt_of_lt_of_le (by have := World.block_lt_of_cell? _ _ hw102_0; first | rwa [QaL] at this | exact this) GW109.out)) | (show (Addr.add _ _).block ≠ _; rw [QaL]; exact Nat.ne_of_lt (Nat.lt_of_lt_of_le (by have := World.block_lt_of_cell? _ _ hw102_0; first | rwa [QaL] at this | exact this) GW109.out)) | (dsimp only; exact Nat.ne_of_lt (Nat.lt_of_lt_of_le (by have := World.block_lt_of_cell? _ _ hw102_0; first | rwa [QaL] at this | exact this) GW109.out))) _).trans (hHeld.1)))))), ((cell_far (p := ⟨gb109, _, none⟩) (by first | exact Nat.ne_of_lt (Nat.lt_of_lt_of_le (by have := World.block_lt_of_cell? _ _ hw103_0; first | rwa [QaL] at this | exact this) GW109.out) | (rw [QaL]; exact Nat.ne_of_lt (Nat.lt_of_lt_of_le (by have := World.block_lt_of_cell? _ _ hw103_0; first | rwa [QaL] at this | exact this) GW109.out)) | (show (Addr.add _ _).block ≠ _; rw [QaL]; exact Nat.ne_of_lt (Nat.lt_of_lt_of_le (by have := World.block_lt_of_cell? _ _ hw103_0; first | rwa [QaL] at this | exact this) GW109.out)) | (dsimp only; exact Nat.ne_of_lt (Nat.lt_of_lt_of_le (by have := World.block_lt_of_cell? _ _ hw103_0; first | rwa [QaL] at this | exact this) GW109.out))) _).trans (((cell_far (p := ⟨gb109, _, none⟩) (by first | exact Nat.ne_of_lt (Nat.lt_of_lt_of_le (by have := World.block_lt_of_cell? _ _ hw103_0; first | rwa [QaL] at this | exact this) GW109.out) | (rw [QaL]; exact Nat.ne_of_lt (Nat.lt_of_lt_of_le (by have := World.block_lt_of_cell? _ _ hw103_0; first | rwa [QaL] at this | exact this) GW109.out)) | (show (Addr.add _ _).block ≠ _; rw [QaL]; exact Nat.ne_of_lt (Nat.lt_of_lt_of_le (by have := World.block_lt_of_cell? _ _ hw103_0; first | rwa [QaL] at this | exact this) GW109.out)) | (dsimp only; exact Nat.ne_of_lt (Nat.lt_of_lt_of_le (by have := World.block_lt_of_cell? _ _ hw103_0; first | rwa [QaL] at this | exact this) GW109.out))) _).trans (((cell_far (p := ⟨gb109, _, none⟩) (by first | exact Nat.ne_of_lt (Nat.lt_of_lt_of_le (by have := World.block_lt_of_cell? _ _ hw103_0; first | rwa [QaL] at this | exact this) GW109.out) | (rw [QaL]; exact Nat.ne_of_lt (Nat.lt_of_lt_of_le (by have := World.block_lt_of_cell? _ _ hw103_0; first | rwa [QaL] at this | exact this) GW109.out)) | (show (Addr.add _ _).block ≠ _; rw [QaL]; exact Nat.ne_of_lt (Nat.lt_of_lt_of_le (by have := World.block_lt_of_cell? _ _ hw103_0; first | rwa [QaL] at this | exact this) GW109.out)) | (dsimp only; exact Nat.ne_of_lt (Nat.lt_of_lt_of_le (by have := World.block_lt_of_cell? _ _ hw103_0; first | rwa [QaL] at this | exact this) GW109.out))) _).trans (hHeld.2))))))⟩ (fun hHeld => ?_)
     clear hK K
     refine done_ (QbY HT_.out (by kernel_rfl)) ?_
     try go_wp2
     go_loopg [8, 9] k (fun kq v8 v9 w' => ∃ (x8_1 : Int) (x9_1 : Int) (x1001_1 : Int) (x110002_1 : List (Qac)) (u110002 : Value), v8 = .int .i64 x8_1 ∧ v9 = .int .i64 x9_1 ∧ Aside0 (Qag.l0 kq l1 x8_1 x9_1 s0_0 x1001_1 (rd l1 a2) ji7 x110002_1 = some (r1, r2, r3, r4)) ∧ Aside0 (kq ≤ k) ∧ Aside0 (Kd.R QaB 83 w' w.heap.size (fun _ => True) u110002 x110002_1) ∧ Aside0 (w'.heap[gb101]? = some (.cells #[.int .i64 0, .int .i64 0, (.slice none 0 0)] 34 (0, 0))) ∧ Aside0 (w'.heap[gb109]? = some (.cells #[.int .i64 (rd l1 a2), .int .i64 ji7, u110002] 34 (0, 0))) ∧ Aside0 (Qad w0 w' g s0_0 x1001_1) ∧ Aside0 (Qai w w' g none) ∧ Aside0 (Below w0.heap.size w0 w'))
     case atStart => exact ⟨((-1)), (0), (t105), (y106), (.slice Ao16 y106.length co16), (by first | rfl | (simp; done) | (simp [*]; done)), (by first | rfl | (simp; done) | (simp [*]; done)), H', ⟨Nat.le_refl _⟩, ⟨by (refine QaP ?_); exact Kd.R_mono (Kd.R_far (p := ⟨gb109, 2, none⟩) (Kd.R_far (p := ⟨gb109, 1, none⟩) (Kd.R_far (p := ⟨gb109, 0, none⟩) (Kd.R_types HO108.out BK109.out (by decide)) (fun _ hk => hk.2) (.int .i64 (rd l1 a2))) (fun _ hk => hk.2) (.int .i64 ji7)) (fun _ hk => hk.2) (.slice Ao16 y106.length co16)) (fun _ hk => trivial)⟩, ⟨by (refine kb_ ?_); refine Qbe ?_ NB101_109.out _; (refine kb_ ?_); refine Qbe ?_ NB101_109.out _; (refine kb_ ?_); refine Qbe ?_ NB101_109.out _; (refine kb_ ?_); exact BK101.out⟩, ⟨by (refine kb_ ?_); refine Qbc (cs := #[.int .i64 (rd l1 a2), .int .i64 ji7, .slice none 0 0]) ?_ 2 _ rfl; (refine kb_ ?_); refine Qbc (cs := #[.int .i64 (rd l1 a2), .int .i64 0, .slice none 0 0]) ?_ 1 _ rfl; (refine kb_ ?_); refine Qbc (cs := #[.int .i64 0, .int .i64 0, .slice none 0 0]) ?_ 0 _ rfl; (refine kb_ ?_); exact BK109.out⟩, ⟨ki_⟩, ⟨kk_⟩, ⟨bx_⟩⟩
     case round =>
      clear H'
      try clear p2
      try clear c5
      obtain ⟨x8_1, x9_1, x1001_1, x110002_1, u110002, rfl, rfl, HA, HK1, HO_110002, BK101, BK109, HI0, HK, HB⟩ := hrel
      cases gk with
      | zero => exact absurd HA.out (by simp [Qag.l0])
      | succ k1 =>
        have H := HA.out
        clear HA
        simp only [Qag.l0] at H
        by_cases c20 : x9_1 < 4
        · first | (with_reducible replace H := (if_pos c20).symm.trans H) | rw [if_pos c20] at H
          have c20b0 : decide (x9_1 < 4) = true := decide_eq_true c20
          clear c20
          replace H := Option.bind_eq_some_iff.mp H
          obtain ⟨⟨t110, t113⟩, A210, H⟩ := H
          replace H : (if x8_1 < 0 then ((Qab.f k1 s0_0 t113 6).bind fun bt114 => (if bt114.1 = 0 then (Qag.j1 k1 l1 x8_1 x9_1 t110 (decide ((wrap64 ((x110002_1.length : Int) + (t110.length : Int))) ≤ 10)) s0_0 bt114.2 (rd l1 a2) ji7 x110002_1) else (Qag.j1 k1 l1 x8_1 x9_1 t110 false s0_0 bt114.2 (rd l1 a2) ji7 x110002_1))) else (Qag.j1 k1 l1 x8_1 x9_1 t110 false s0_0 t113 (rd l1 a2) ji7 x110002_1)) = some (r1, r2, r3, r4) := H
          have A21 := Aside0.mk A210
          clear A210
          have HC22 := Aside0.mk H
          clear H
          have hnb23 := NB109_101.out
          have hnc23 := NB101_109.out
          have hnb24 := NB109_0.out
          have hnc24 := NB0_109.out
          have hcz25_0 : wr.cell? ⟨gb109, 0, none⟩ = some (.int .i64 (rd l1 a2)) := (Qaf BK109.out 0).trans rfl
          have hcz25_1 : wr.cell? ⟨gb109, 1, none⟩ = some (.int .i64 ji7) := (Qaf BK109.out 1).trans rfl
          have hcz25_2 : wr.cell? ⟨gb109, 2, none⟩ = some (u110002) := (Qaf BK109.out 2).trans rfl
          have hfz25_0 := Qaj BK109.out 0
          have hfz25_1 := Qaj BK109.out 1
          have hfz25_2 := Qaj BK109.out 2
          go_upto_region 7 with (first | ((with_reducible refine Qax (f := 128) rfl ?_); refine QaX (some 33) rfl rfl Try.func128 (by kernel_rfl) rfl #[.pointer (some ⟨g, 0, none⟩), .slice (some ad102) l1.length c1, .int .i64 ji7] rfl (by (try simp only [List.map_toArray, List.map_cons, List.map_nil]); first | done | (simp only [hji7]; rfl) | rfl | (simp only [List.length_drop, List.length_take]; rfl)) ?_; (with_reducible refine (Qay.calls k1 g s0_0 x1001_1 _ _ l1 ji7 t110 t113 w0 _ ?side1 ?side2 ?side3 ?side4 ?side5 A21.out).mono ?_); (case side1 => repeat (first | (with_reducible first | exact HI0.out | apply Qad.alloc | apply Qad.drewN | apply Qad.drew | apply Qad.set_1 | refine Qad.far ?_ NB0_101.out _ | refine Qad.far ?_ NB0_109.out _) | exact HI0.out)); (case side2 => repeat (first | (with_reducible first | exact HB.out | apply Qal | apply Qar | apply Qav | refine Qaw ?_ (Qad.ge HI0.out) | refine Qaw ?_ GE101.out | refine Qaw ?_ GE109.out) | exact HB.out)); (case side3 => exact Kd.C_keep 0 HR1.out (kk_) hf1); (case side4 => exact HC1.out); (case side5 => exact hf1); rintro e w26 ⟨v111, rfl, ho0, hi, hb, hk⟩; refine ⟨_, rfl, ?_⟩; have n0_ := Aside0.mk (Kd.R_mono (Kd.R_told (Kd.R_oldK (Qad.apart (show Qad w0 _ g s0_0 x1001_1 from ki_) (by (refine QaP ?_); exact HO_110002.out) (by decide)) hk) (Kd.R_base ho0)) (fun _ h_ => h_.1)); have n1_ := Aside0.mk (Qai.blk hk (g' := gb101) (o := .cells #[.int .i64 0, .int .i64 0, .slice none 0 0] 34 (0, 0)) (by (refine kb_ ?_); exact BK101.out) NB101_0.out (by simp)); have n2_ := Aside0.mk (Qai.blk hk (g' := gb109) (o := .cells #[.int .i64 (rd l1 a2), .int .i64 ji7, u110002] 34 (0, 0)) (by (refine kb_ ?_); exact BK109.out) NB109_0.out (by simp)); have n3_ := Aside0.mk (Kd.R_lower (Kd.R_new' ho0 (Kd.R_lt (by (refine QaP ?_); exact HO_110002.out))) (QaC (w := w) (g := g) (row := none) (kk_))); have n4_ := Aside0.mk (Qai.trans (kk_) hk (.inl rfl)); have n5_ := Aside0.mk (hb); have n6_ := Aside0.mk (hi); clear HO_110002; clear BK101; clear BK109; clear HK; clear HB; clear HI0; have HO_110002 := n0_; have BK101 := n1_; have BK109 := n2_; have HO112 := n3_; have HK := n4_; have HB := n5_; have HI0 := n6_; clear n0_ n1_ n2_ n3_ n4_ n5_ n6_; (try clear hb); (try clear hb2); (try clear hk); (try clear hi); (try clear ho0)))
          (try simp only [Act.put, List.setIfInBounds_toArray, List.set_cons_zero, List.set_cons_succ])
          go_cut [49] (fun v49 wc => ∃ (kq : Nat) (x49_21 : Bool) (x1001_21 : Int), v49 = .bool x49_21 ∧ Aside0 (Qag.j1 kq l1 x8_1 x9_1 t110 x49_21 s0_0 x1001_21 (rd l1 a2) ji7 x110002_1 = some (r1, r2, r3, r4)) ∧ Aside0 (kq ≤ k1) ∧ Aside0 (Kd.R QaB 83 wc w.heap.size (fun k_ => some k_ ≠ (u110002 : Value).ownBlock) v111 t110) ∧ Aside0 (Kd.R QaB 83 wc w.heap.size (fun k_ => some k_ ≠ (v111 : Value).ownBlock) u110002 x110002_1) ∧ Aside0 (wc.heap[gb101]? = some (.cells #[.int .i64 0, .int .i64 0, (.slice none 0 0)] 34 (0, 0))) ∧ Aside0 (wc.heap[gb109]? = some (.cells #[.int .i64 (rd l1 a2), .int .i64 ji7, u110002] 34 (0, 0))) ∧ Aside0 (Qad w0 wc g s0_0 x1001_21) ∧ Aside0 (Qai w wc g none) ∧ Aside0 (Below w0.heap.size w0 wc))
          case first =>
           have H := HC22.out
           clear HC22
           by_cases c27 : x8_1 < 0
           · first | (with_reducible replace H := (if_pos c27).symm.trans H) | rw [if_pos c27] at H
             have c27b0 : decide (x8_1 < 0) = true := decide_eq_true c27
             clear c27
             (first | rw [c27b0] | (simp only [Qbb, Qbd]; rw [c27b0]) | skip)
             replace H := Option.bind_eq_some_iff.mp H
             obtain ⟨⟨t114, t115⟩, A280, H⟩ := H
             replace H : (if t114 = 0 then (Qag.j1 k1 l1 x8_1 x9_1 t110 (decide ((wrap64 ((x110002_1.length : Int) + (t110.length : Int))) ≤ 10)) s0_0 t115 (rd l1 a2) ji7 x110002_1) else (Qag.j1 k1 l1 x8_1 x9_1 t110 false s0_0 t115 (rd l1 a2) ji7 x110002_1)) = some (r1, r2, r3, r4) := H
             have A28 := Aside0.mk A280
             clear A280
             by_cases c29 : t114 = 0
             · first | (with_reducible replace H := (if_pos c29).symm.trans H) | rw [if_pos c29] at H
               have c29b0 : (t114 == 0) = true := beq_iff_eq.mpr c29
               have c29b1 : (t114 != 0) = false := bne_eq_false_iff_eq.mpr c29
               clear c29
               have H' := Aside0.mk H
               clear H
               go_wp2_with (first | (go_at_call 55; (with_reducible refine (Qab.calls k1 g s0_0 t113 6 t114 t115 w0 _ ?side1 ?side2 A28.out).mono ?_); (case side1 => repeat (first | (with_reducible first | exact HI0.out | apply Qad.alloc | apply Qad.drewN | apply Qad.drew | apply Qad.set_1 | refine Qad.far ?_ NB0_101.out _ | refine Qad.far ?_ NB0_109.out _) | exact HI0.out)); (case side2 => repeat (first | (with_reducible first | exact HB.out | apply Qal | apply Qar | apply Qav | refine Qaw ?_ (Qad.ge HI0.out) | refine Qaw ?_ GE101.out | refine Qaw ?_ GE109.out) | exact HB.out)); rintro e w30 ⟨rfl, hi, hb, hk⟩; have n0_ := Aside0.mk (Kd.R_mono (Kd.R_keep (Qad.apart (show Qad w0 _ g s0_0 t113 from ki_) (by (refine QaP ?_); exact HO_110002.out) (by decide)) hk (fun _ h => h.2)) (fun _ h => h.1)); have n1_ := Aside0.mk (Qai.blk hk (g' := gb101) (o := .cells #[.int .i64 0, .int .i64 0, .slice none 0 0] 34 (0, 0)) (by (refine kb_ ?_); exact BK101.out) NB101_0.out (by simp)); have n2_ := Aside0.mk (Qai.blk hk (g' := gb109) (o := .cells #[.int .i64 (rd l1 a2), .int .i64 ji7, u110002] 34 (0, 0)) (by (refine kb_ ?_); exact BK109.out) NB109_0.out (by simp)); have n3_ := Aside0.mk (Kd.R_mono (Kd.R_keep (Qad.apart (show Qad w0 _ g s0_0 t113 from ki_) (by (refine QaP ?_); exact HO112.out) (by decide)) hk (fun _ h => h.2)) (fun _ h => h.1)); have n4_ := Aside0.mk (Qai.trans (kk_) hk (.inl rfl)); have n5_ := Aside0.mk (hb); have n6_ := Aside0.mk (hi); clear HO_110002; clear BK101; clear BK109; clear HO112; clear HK; clear HB; clear HI0; have HO_110002 := n0_; have BK101 := n1_; have BK109 := n2_; have HO112 := n3_; have HK := n4_; have HB := n5_; have HI0 := n6_; clear n0_ n1_ n2_ n3_ n4_ n5_ n6_; (try clear hb); (try clear hb2); (try clear hk); (try clear hi); have hnb31 := NB109_101.out; have hnc31 := NB101_109.out; have hnb32 := NB109_0.out; have hnc32 := NB0_109.out; obtain ⟨hcz33_0, hcz33_1, hcz33_2, hfz33_0, hfz33_1, hfz33_2⟩ := Qb_ BK109.out; obtain ⟨Ao34, co34, eo34⟩ := Kd.R_slice HO_110002.out; subst eo34; obtain ⟨Ao35, co35, eo35⟩ := Kd.R_slice HO112.out; subst eo35))
               go_meet
               case rel => exact ⟨_, (decide ((wrap64 ((x110002_1.length : Int) + (t110.length : Int))) ≤ 10)), (t115), (by first | rfl | (simp; done) | (simp [*]; done)), H', ⟨by have := HK1.out; first | omega | exact Nat.le_refl _⟩, ⟨by (refine QaP ?_); exact Kd.R_mono HO112.out (fun _ hk => hk.2)⟩, ⟨by (refine QaP ?_); exact Kd.R_mono HO_110002.out (fun _ hk => hk.2)⟩, ⟨by (refine kb_ ?_); exact BK101.out⟩, ⟨by (refine kb_ ?_); exact BK109.out⟩, ⟨ki_⟩, ⟨kk_⟩, ⟨bx_⟩⟩
             · first | (with_reducible replace H := (if_neg c29).symm.trans H) | rw [if_neg c29] at H
               have c29b0 : (t114 == 0) = false := beq_eq_false_iff_ne.mpr c29
               have c29b1 : (t114 != 0) = true := bne_iff_ne.mpr c29
               have H' := Aside0.mk H
               clear H
               go_wp2_with (first | (go_at_call 55; (with_reducible refine (Qab.calls k1 g s0_0 t113 6 t114 t115 w0 _ ?side1 ?side2 A28.out).mono ?_); (case side1 => repeat (first | (with_reducible first | exact HI0.out | apply Qad.alloc | apply Qad.drewN | apply Qad.drew | apply Qad.set_1 | refine Qad.far ?_ NB0_101.out _ | refine Qad.far ?_ NB0_109.out _) | exact HI0.out)); (case side2 => repeat (first | (with_reducible first | exact HB.out | apply Qal | apply Qar | apply Qav | refine Qaw ?_ (Qad.ge HI0.out) | refine Qaw ?_ GE101.out | refine Qaw ?_ GE109.out) | exact HB.out)); rintro e w36 ⟨rfl, hi, hb, hk⟩; have n0_ := Aside0.mk (Kd.R_mono (Kd.R_keep (Qad.apart (show Qad w0 _ g s0_0 t113 from ki_) (by (refine QaP ?_); exact HO_110002.out) (by decide)) hk (fun _ h => h.2)) (fun _ h => h.1)); have n1_ := Aside0.mk (Qai.blk hk (g' := gb101) (o := .cells #[.int .i64 0, .int .i64 0, .slice none 0 0] 34 (0, 0)) (by (refine kb_ ?_); exact BK101.out) NB101_0.out (by simp)); have n2_ := Aside0.mk (Qai.blk hk (g' := gb109) (o := .cells #[.int .i64 (rd l1 a2), .int .i64 ji7, u110002] 34 (0, 0)) (by (refine kb_ ?_); exact BK109.out) NB109_0.out (by simp)); have n3_ := Aside0.mk (Kd.R_mono (Kd.R_keep (Qad.apart (show Qad w0 _ g s0_0 t113 from ki_) (by (refine QaP ?_); exact HO112.out) (by decide)) hk (fun _ h => h.2)) (fun _ h => h.1)); have n4_ := Aside0.mk (Qai.trans (kk_) hk (.inl rfl)); have n5_ := Aside0.mk (hb); have n6_ := Aside0.mk (hi); clear HO_110002; clear BK101; clear BK109; clear HO112; clear HK; clear HB; clear HI0; have HO_110002 := n0_; have BK101 := n1_; have BK109 := n2_; have HO112 := n3_; have HK := n4_; have HB := n5_; have HI0 := n6_; clear n0_ n1_ n2_ n3_ n4_ n5_ n6_; (try clear hb); (try clear hb2); (try clear hk); (try clear hi)))
               go_meet
               case rel => exact ⟨_, (false), (t115), (by first | rfl | (simp; done) | (simp [*]; done)), H', ⟨by have := HK1.out; first | omega | exact Nat.le_refl _⟩, ⟨by (refine QaP ?_); exact Kd.R_mono HO112.out (fun _ hk => hk.2)⟩, ⟨by (refine QaP ?_); exact Kd.R_mono HO_110002.out (fun _ hk => hk.2)⟩, ⟨by (refine kb_ ?_); exact BK101.out⟩, ⟨by (refine kb_ ?_); exact BK109.out⟩, ⟨ki_⟩, ⟨kk_⟩, ⟨bx_⟩⟩
           · first | (with_reducible replace H := (if_neg c27).symm.trans H) | rw [if_neg c27] at H
             have c27b0 : decide (x8_1 < 0) = false := decide_eq_false c27
             clear c27
             (first | rw [c27b0] | (simp only [Qbb, Qbd]; rw [c27b0]) | skip)
             have H' := Aside0.mk H
             clear H
             go_wp2
             go_meet
             case rel => exact ⟨_, (false), (t113), (by first | rfl | (simp; done) | (simp [*]; done)), H', ⟨by have := HK1.out; first | omega | exact Nat.le_refl _⟩, ⟨by (refine QaP ?_); exact Kd.R_mono HO112.out (fun _ hk => hk.2)⟩, ⟨by (refine QaP ?_); exact Kd.R_mono HO_110002.out (fun _ hk => hk.2)⟩, ⟨by (refine kb_ ?_); exact BK101.out⟩, ⟨by (refine kb_ ?_); exact BK109.out⟩, ⟨ki_⟩, ⟨kk_⟩, ⟨bx_⟩⟩
          case rest =>
           clear HC22
           try clear c1
           try clear c2
           try clear p2
           try clear c3
           try clear c5
           try clear p6
           try clear c12
           try clear c20
           try clear c20b0
           try clear c23
           try clear c24
           try clear c27
           try clear c27b0
           try clear c29
           try clear c29b0
           try clear c29b1
           try clear c31
           try clear c32
           try clear hcz25_0
           try clear hcz25_1
           try clear hcz25_2
           try clear hcz33_0
           try clear hcz33_1
           try clear hcz33_2
           try clear hfz25_0
           try clear hfz25_1
           try clear hfz25_2
           try clear hfz33_0
           try clear hfz33_1
           try clear hfz33_2
           try clear p2
           obtain ⟨kq, x49_21, x1001_21, rfl, HA, HJ21, HO_10, HO_110002, BK101, BK109, HI0, HK, HB⟩ := hcut
           cases kq with
           | zero => exact absurd HA.out (by simp [Qag.j1])
           | succ kj21 =>
             have H := HA.out
             clear HA
             simp only [Qag.j1] at H
             by_cases c37 : x49_21 = true
             · subst c37
               have H1 : ((Qab.f kj21 s0_0 x1001_21 ji7).bind fun bt116 => ((some (([(⟨2, bt116.1⟩ : Qac), (⟨8, 0⟩ : Qac)] : List (Qac)) : List (Qac))).bind fun y118 => (if x110002_1.length + y118.length < 8796093022208 then ((some (x110002_1 ++ y118 : List (Qac))).bind fun y121 => (if (wrap64 ((y121.length : Int) + (t110.length : Int))) ≤ 12 then (if y121.length + t110.length < 8796093022208 then (Qag.l0 kj21 l1 (wrap64 ((x110002_1.length : Int) + 1)) (wrap64 (x9_1 + 1)) s0_0 bt116.2 (rd l1 a2) ji7 (y121 ++ t110)) else (none)) else (Qag.l0 kj21 l1 (wrap64 ((x110002_1.length : Int) + 1)) (wrap64 (x9_1 + 1)) s0_0 bt116.2 (rd l1 a2) ji7 y121))) else (none)))) = some (r1, r2, r3, r4) := by rw [if_pos rfl] at H; exact H
               clear H
               have H := H1
               clear H1
               replace H := Option.bind_eq_some_iff.mp H
               obtain ⟨⟨t116, t117⟩, A380, H⟩ := H
               replace H : ((some (([(⟨2, t116⟩ : Qac), (⟨8, 0⟩ : Qac)] : List (Qac)) : List (Qac))).bind fun y118 => (if x110002_1.length + y118.length < 8796093022208 then ((some (x110002_1 ++ y118 : List (Qac))).bind fun y121 => (if (wrap64 ((y121.length : Int) + (t110.length : Int))) ≤ 12 then (if y121.length + t110.length < 8796093022208 then (Qag.l0 kj21 l1 (wrap64 ((x110002_1.length : Int) + 1)) (wrap64 (x9_1 + 1)) s0_0 t117 (rd l1 a2) ji7 (y121 ++ t110)) else (none)) else (Qag.l0 kj21 l1 (wrap64 ((x110002_1.length : Int) + 1)) (wrap64 (x9_1 + 1)) s0_0 t117 (rd l1 a2) ji7 y121))) else (none))) = some (r1, r2, r3, r4) := H
               have A38 := Aside0.mk A380
               clear A380
               obtain ⟨y118, hy118⟩ : ∃ y_ : List (Qac), y_ = (([(⟨2, t116⟩ : Qac), (⟨8, 0⟩ : Qac)] : List (Qac))) := ⟨_, rfl⟩
               replace H : (if x110002_1.length + y118.length < 8796093022208 then ((some (x110002_1 ++ y118 : List (Qac))).bind fun y121 => (if (wrap64 ((y121.length : Int) + (t110.length : Int))) ≤ 12 then (if y121.length + t110.length < 8796093022208 then (Qag.l0 kj21 l1 (wrap64 ((x110002_1.length : Int) + 1)) (wrap64 (x9_1 + 1)) s0_0 t117 (rd l1 a2) ji7 (y121 ++ t110)) else (none)) else (Qag.l0 kj21 l1 (wrap64 ((x110002_1.length : Int) + 1)) (wrap64 (x9_1 + 1)) s0_0 t117 (rd l1 a2) ji7 y121))) else (none)) = some (r1, r2, r3, r4) := by first | (rw [hy118]; with_reducible exact H) | (have H2_ := (Option.bind_some _ _).symm.trans H; rw [hy118]; with_reducible exact H2_) | (have H2_ := (Option.bind_some _ _).symm.trans H; with_reducible exact H2_) | with_reducible exact H | (rw [hy118]; exact H) | exact H
               have Ny118 := Aside0.mk hy118
               clear hy118
               by_cases c39 : x110002_1.length + y118.length < 8796093022208
               · first | (with_reducible replace H := (if_pos c39).symm.trans H) | rw [if_pos c39] at H
                 have LMc39 := Aside0.mk c39
                 clear c39
                 obtain ⟨y121, hy121⟩ : ∃ y_ : List (Qac), y_ = (x110002_1 ++ y118) := ⟨_, rfl⟩
                 replace H : (if (wrap64 ((y121.length : Int) + (t110.length : Int))) ≤ 12 then (if y121.length + t110.length < 8796093022208 then (Qag.l0 kj21 l1 (wrap64 ((x110002_1.length : Int) + 1)) (wrap64 (x9_1 + 1)) s0_0 t117 (rd l1 a2) ji7 (y121 ++ t110)) else (none)) else (Qag.l0 kj21 l1 (wrap64 ((x110002_1.length : Int) + 1)) (wrap64 (x9_1 + 1)) s0_0 t117 (rd l1 a2) ji7 y121)) = some (r1, r2, r3, r4) := by first | (rw [hy121]; with_reducible exact H) | (have H2_ := (Option.bind_some _ _).symm.trans H; rw [hy121]; with_reducible exact H2_) | (have H2_ := (Option.bind_some _ _).symm.trans H; with_reducible exact H2_) | with_reducible exact H | (rw [hy121]; exact H) | exact H
                 have Ny121 := Aside0.mk hy121
                 clear hy121
                 by_cases c40 : (wrap64 ((y121.length : Int) + (t110.length : Int))) ≤ 12
                 · first | (with_reducible replace H := (if_pos c40).symm.trans H) | rw [if_pos c40] at H
                   have c40b0 : decide ((wrap64 ((y121.length : Int) + (t110.length : Int))) ≤ 12) = true := decide_eq_true c40
                   clear c40
                   by_cases c41 : y121.length + t110.length < 8796093022208
                   · first | (with_reducible replace H := (if_pos c41).symm.trans H) | rw [if_pos c41] at H
                     have LMc41 := Aside0.mk c41
                     clear c41
                     obtain ⟨y124, hy124⟩ : ∃ y_ : List (Qac), y_ = (y121 ++ t110) := ⟨_, rfl⟩
                     replace H : (Qag.l0 kj21 l1 (wrap64 ((x110002_1.length : Int) + 1)) (wrap64 (x9_1 + 1)) s0_0 t117 (rd l1 a2) ji7 y124) = some (r1, r2, r3, r4) := by first | (rw [hy124]; with_reducible exact H) | (have H2_ := (Option.bind_some _ _).symm.trans H; rw [hy124]; with_reducible exact H2_) | (have H2_ := (Option.bind_some _ _).symm.trans H; with_reducible exact H2_) | with_reducible exact H | (rw [hy124]; exact H) | exact H
                     have Ny124 := Aside0.mk hy124
                     clear hy124
                     have H' := Aside0.mk H
                     clear H
                     have hnb42 := NB109_101.out
                     have hnc42 := NB101_109.out
                     have hnb43 := NB109_0.out
                     have hnc43 := NB0_109.out
                     have hcz44_0 : wc.cell? ⟨gb109, 0, none⟩ = some (.int .i64 (rd l1 a2)) := (Qaf BK109.out 0).trans rfl
                     have hcz44_1 : wc.cell? ⟨gb109, 1, none⟩ = some (.int .i64 ji7) := (Qaf BK109.out 1).trans rfl
                     have hcz44_2 : wc.cell? ⟨gb109, 2, none⟩ = some (u110002) := (Qaf BK109.out 2).trans rfl
                     have hfz44_0 := Qaj BK109.out 0
                     have hfz44_1 := Qaj BK109.out 1
                     have hfz44_2 := Qaj BK109.out 2
                     obtain ⟨Ao45, co45, eo45⟩ := Kd.R_slice HO_110002.out
                     subst eo45
                     try go_wp2
                     have n0_ := Aside0.mk (Kd.R_drew HO_10.out)
                     have n1_ := Aside0.mk (Kd.R_drew HO_110002.out)
                     have n2_ := Aside0.mk (Qbf BK101.out)
                     have n3_ := Aside0.mk (Qbf BK109.out)
                     have n4_ := Aside0.mk (Qad.drew HI0.out)
                     have n5_ := Aside0.mk (Qcp HK.out)
                     have n6_ := Aside0.mk (Qav HB.out)
                     clear HO_10
                     clear HO_110002
                     clear BK101
                     clear BK109
                     clear HI0
                     clear HK
                     clear HB
                     have HO_10 := n0_
                     have HO_110002 := n1_
                     have BK101 := n2_
                     have BK109 := n3_
                     have HI0 := n4_
                     have HK := n5_
                     have HB := n6_
                     clear n0_ n1_ n2_ n3_ n4_ n5_ n6_
                     refine Qch (n := 12) (S := fun w' => w'.cell? ⟨gb109, 0, none⟩ = some (.int .i64 (rd l1 a2)) ∧ w'.cell? ⟨gb109, 1, none⟩ = some (.int .i64 ji7) ∧ w'.cell? ⟨gb109, 2, none⟩ = some (.slice Ao45 x110002_1.length co45)) (ds := [11]) #[false, false, false, false, false, false, false, false, false, false, false, false] (by kernel_rfl) rfl rfl ⟨(Qaf BK109.out 0).trans rfl, (Qaf BK109.out 1).trans rfl, (Qaf BK109.out 2).trans rfl⟩ (fun hHeld => ?_); refine Qby Qag.tab9 Qag.bits9 (fun HT_ HW_ => ?_)
                     generalize wc.drew = w46 at HO_10 HO_110002 BK101 BK109 HI0 HK HB hHeld ⊢
                     refine pu_ 0 (some 54) #[true, false, false, false, false, false, false, false, false, false, false, false] rfl rfl ?_
                     refine pu_ 2 (some 56) #[true, false, true, false, false, false, false, false, false, false, false, false] rfl rfl ?_
                     refine pu_ 3 (some 57) #[true, false, true, true, false, false, false, false, false, false, false, false] rfl rfl ?_
                     refine pu_ 7 (some 61) #[true, false, true, true, false, false, false, true, false, false, false, false] rfl rfl ?_
                     refine tk_ 1 (some 55) #[true, true, true, true, false, false, false, true, false, false, false, false] rfl rfl hHeld ?_
                     refine tk_ 4 (some 58) #[true, true, true, true, true, false, false, true, false, false, false, false] rfl rfl hHeld ?_
                     refine one_ (i := 5) (N := some 59) #[true, true, true, true, true, true, false, true, false, false, false, false] rfl rfl (Qbw HT_.out (by kernel_rfl)) (by decide) (fun K hK => ?_)
                     refine goes_ Try.func55 (by kernel_rfl) rfl #[.pointer (some ⟨g, 0, none⟩), .int .i64 ji7] (by rfl) rfl rfl (by (try simp only [List.map_toArray, List.map_cons, List.map_nil]); first | done | (simp only [hji7]; rfl) | rfl | (simp only [List.length_drop, List.length_take]; rfl)) ?_
                     with_reducible refine (Qab.calls kj21 g s0_0 x1001_21 ji7 t116 t117 w0 _ ?side1 ?side2 A38.out).mono ?_
                     (case side1 => repeat (first | (with_reducible first | exact HI0.out | apply Qad.alloc | apply Qad.drewN | apply Qad.drew | apply Qad.set_1 | refine Qad.far ?_ NB0_101.out _ | refine Qad.far ?_ NB0_109.out _) | exact HI0.out))
                     (case side2 => repeat (first | (with_reducible first | exact HB.out | apply Qal | apply Qar | apply Qav | refine Qaw ?_ (Qad.ge HI0.out) | refine Qaw ?_ GE101.out | refine Qaw ?_ GE109.out) | exact HB.out))
                     rintro e w47 ⟨rfl, hi, hb, hk⟩
                     refine ⟨_, rfl, ?_⟩
                     have n0_ := Aside0.mk (Kd.R_mono (Kd.R_keep (Qad.apart (show Qad w0 _ g s0_0 x1001_21 from ki_) (by (refine QaP ?_); exact HO_10.out) (by decide)) hk (fun _ h => h.2)) (fun _ h => h.1))
                     have n1_ := Aside0.mk (Kd.R_mono (Kd.R_keep (Qad.apart (show Qad w0 _ g s0_0 x1001_21 from ki_) (by (refine QaP ?_); exact HO_110002.out) (by decide)) hk (fun _ h => h.2)) (fun _ h => h.1))
                     have n2_ := Aside0.mk (Qai.blk hk (g' := gb101) (o := .cells #[.int .i64 0, .int .i64 0, .slice none 0 0] 34 (0, 0)) (by (refine kb_ ?_); exact BK101.out) NB101_0.out (by simp))
                     have n3_ := Aside0.mk (Qai.blk hk (g' := gb109) (o := .cells #[.int .i64 (rd l1 a2), .int .i64 ji7, .slice Ao45 x110002_1.length co45] 34 (0, 0)) (by (refine kb_ ?_); exact BK109.out) NB109_0.out (by simp))
                     have n4_ := Aside0.mk (Qai.trans (kk_) hk (.inl rfl))
                     have n5_ := Aside0.mk (hb)
                     have n6_ := Aside0.mk (hi)
                     clear HO_10
                     clear HO_110002
                     clear BK101
                     clear BK109
                     clear HK
                     clear HB
                     clear HI0
                     have HO_10 := n0_
                     have HO_110002 := n1_
                     have BK101 := n2_
                     have BK109 := n3_
                     have HK := n4_
                     have HB := n5_
                     have HI0 := n6_
                     clear n0_ n1_ n2_ n3_ n4_ n5_ n6_
                     (try clear hb)
                     (try clear hb2)
                     (try clear hk)
                     (try clear hi)
                     refine hK.out _ _ ⟨(Qaf BK109.out 0).trans rfl, (Qaf BK109.out 1).trans rfl, (Qaf BK109.out 2).trans rfl⟩ (fun hHeld => ?_)
                     clear hK K
                     refine Qbo (a' := ?_) ?_ ?_
                     rotate_left
                     · show Act.put _ (some 59) _ = _
                       simp only [Act.put, List.setIfInBounds_toArray, List.set_cons_zero, List.set_cons_succ, Qbb, Qbd]
                       rfl
                     refine pu_ 6 (some 60) #[true, true, true, true, true, true, true, true, false, false, false, false] rfl rfl ?_
                     refine one_ (i := 8) (N := some 62) #[true, true, true, true, true, true, true, true, true, false, false, false] rfl rfl (Qbw HT_.out (by kernel_rfl)) (by decide) (fun K hK => ?_)
                     refine Kd.R_lit_step QaB _ 83 ?hg (N := 62) ?hd (xs := ([(⟨2, t116⟩ : Qac), (⟨8, 0⟩ : Qac)] : List (Qac))) (inner := [.int .i64 2, .int .i64 t116, .int .i64 8, .int .i64 0]) (ok := fun _ => True) (okp := fun _ => True) ?hr ?hp (fun _ hk => hk) trivial (Below.refl _ _) (Nat.le_refl _) (by simp) ?_; (case hd => rfl); (case hg => rfl); (case hr => first | (go_simp; done) | (go_simp; rfl)); (case hp => exact (Qa9.c2 (show Kd.M QaB _ _ _ (⟨2, t116⟩ : Qac) [.int .i64 2, .int .i64 t116] from (Qa0 _ _ _ (⟨2, t116⟩ : Qac) )) (Qa9.c2 (show Kd.M QaB _ _ _ (⟨8, 0⟩ : Qac) [.int .i64 8, .int .i64 0] from (Qa0 _ _ _ (⟨8, 0⟩ : Qac) )) (Qa9.none _ _))))
                     intro v119 w48 ho49 hb hg_ hnew_
                     clear hg_ hnew_
                     (first | rw [← Ny118.out] at ho49 | (simp only [Int.reduceToNat] at ho49; rw [← Ny118.out] at ho49))
                     have n0_ := Aside0.mk (Kd.R_elder' (by (refine QaP ?_); exact HO_10.out) (Kd.R_base ho49) hb)
                     have n1_ := Aside0.mk (Kd.R_elder' (by (refine QaP ?_); exact HO_110002.out) (Kd.R_base ho49) hb)
                     have n2_ := Aside0.mk (Kd.R_lower (Kd.R_new' (Kd.R_new' ho49 (Kd.R_lt (by (refine QaP ?_); exact HO_10.out))) (Kd.R_lt (by (refine QaP ?_); exact HO_110002.out))) (QaC (w := w) (g := g) (row := none) (kk_)))
                     have n3_ := Aside0.mk (bb_ BK101 hb)
                     have n4_ := Aside0.mk (bb_ BK109 hb)
                     have n5_ := Aside0.mk (Qad.below (ki_) hb)
                     have n6_ := Aside0.mk (Qai.trans (kk_) (Qai.of_below hb g none) (.inl rfl))
                     have n7_ := Aside0.mk (Qap (bx_) hb)
                     clear HO_10
                     clear HO_110002
                     clear BK101
                     clear BK109
                     clear HI0
                     clear HK
                     clear HB
                     have HO_10 := n0_
                     have HO_110002 := n1_
                     have HO120 := n2_
                     have BK101 := n3_
                     have BK109 := n4_
                     have HI0 := n5_
                     have HK := n6_
                     have HB := n7_
                     clear n0_ n1_ n2_ n3_ n4_ n5_ n6_ n7_
                     clear hb ho49
                     obtain ⟨Ao51, co51, eo51⟩ := Kd.R_slice HO120.out
                     (first | subst eo51 | (injection eo51 with f1_ f2_ f3_; have f4_ := f1_.symm; have f5_ := f3_.symm; clear f1_ f2_ f3_; subst f4_; subst f5_))
                     refine hK.out _ _ ⟨(Qaf BK109.out 0).trans rfl, (Qaf BK109.out 1).trans rfl, (Qaf BK109.out 2).trans rfl⟩ (fun hHeld => ?_)
                     clear hK K
                     refine Qbo (a' := ?_) ?_ ?_
                     rotate_left
                     · show Act.put _ (some 62) _ = _
                       simp only [Act.put, List.setIfInBounds_toArray, List.set_cons_zero, List.set_cons_succ, Qbb, Qbd]
                       rfl
                     refine one_ (i := 9) (N := some 63) #[true, true, true, true, true, true, true, true, true, true, false, false] rfl rfl (Qbw HT_.out (by kernel_rfl)) (by decide) (fun K hK => ?_)
                     refine Kd.R_append_rows_step QaB w.heap.size (by rfl) (.tmp 55) (.tmp 62) 32 83 (.agg #[(.int .i64 0), (.int .i64 0)]) 16 rfl Try.underlying32 QbO rfl (by decide) (by omega) (.slice Ao45 x110002_1.length co45) x110002_1 y118 _ _ _ (fun k_ => some k_ ≠ (v111 : Value).ownBlock ∧ some k_ ≠ (.slice Ao51 y118.length co51 : Value).ownBlock) (fun _ => False) rfl rfl ?aO ?aR (fun _ _ h => h) (fun _ h => h.elim) ?aF (Below.refl _ _) ?aS ?aL ?_
                     (case aR => repeat (first | exact (Kd.R_reads' HO120.out).2.2 | (with_reducible refine Kd.C_alloc ?_ _) | (with_reducible refine Kd.C_drewN ?_ _) | (with_reducible refine Kd.C_drew ?_)))
                     (case aF => exact (fun k_ hk => ⟨Kd.fresh' (Kd.R_lt (by (refine QaP ?_); exact HO_10.out)) k_ hk, Kd.fresh' (Kd.R_lt (by (refine QaP ?_); exact HO120.out)) k_ hk⟩))
                     (case aO => exact (by (refine QaP ?_); exact HO_110002.out))
                     (case aS => exact (QaC (w := w) (g := g) (row := none) (kk_)))
                     (case aL => have := LMc39.out; omega)
                     intro v122 w50 ho hb hg hat
                     rw [← Ny121.out] at ho
                     have n0_ := Aside0.mk (Kd.R_after (ok := (fun k_ => some k_ ≠ (.slice Ao51 y118.length co51 : Value).ownBlock)) (by (refine QaP ?_); exact Kd.R_mono HO_10.out (fun _ hk => ⟨hk.2, hk.1⟩)) hg hat)
                     have n1_ := Aside0.mk (QaU (g := gb101) (o := .cells #[.int .i64 0, .int .i64 0, .slice none 0 0] 34 (0, 0)) (by (refine kb_ ?_); exact BK101.out) hg (Kd.R_ne HO_110002.out BK101.out (by decide)))
                     have n2_ := Aside0.mk (QaU (g := gb109) (o := .cells #[.int .i64 (rd l1 a2), .int .i64 ji7, .slice Ao45 x110002_1.length co45] 34 (0, 0)) (by (refine kb_ ?_); exact BK109.out) hg (Kd.R_ne HO_110002.out BK109.out (by decide)))
                     have n3_ := Aside0.mk (Qad.grown (Qad.like_ HI0.out (ki_)) hg (Qad.own_ne HI0.out HO_110002.out (by decide)))
                     have n4_ := Aside0.mk (Kd.R_after (ok := (fun k_ => some k_ ≠ (v111 : Value).ownBlock)) (by (refine QaP ?_); exact Kd.R_mono HO120.out (fun _ hk => ⟨hk.1.2, hk.2⟩)) hg hat)
                     have n5_ := Aside0.mk (Qa5 (bx_) HL.out hb)
                     have n6_ := Aside0.mk (Qai.trans (kk_) (Qai.of_grown hg g) (Kd.R_base2 HO_110002.out))
                     have n7_ := Aside0.mk (ho)
                     clear HO_10
                     clear BK101
                     clear BK109
                     clear HI0
                     clear HO120
                     clear HB
                     clear HK
                     clear HO_110002
                     have HO_10 := n0_
                     have BK101 := n1_
                     have BK109 := n2_
                     have HI0 := n3_
                     have HO120 := n4_
                     have HB := n5_
                     have HK := n6_
                     have HO123 := n7_
                     clear n0_ n1_ n2_ n3_ n4_ n5_ n6_ n7_
                     clear ho hb hg hat
                     obtain ⟨Ao52, co52, eo52⟩ := Kd.R_slice HO123.out
                     (first | subst eo52 | (injection eo52 with f1_ f2_ f3_; have f4_ := f1_.symm; have f5_ := f3_.symm; clear f1_ f2_ f3_; subst f4_; subst f5_))
                     refine hK.out _ _ ⟨(Qaf BK109.out 0).trans rfl, (Qaf BK109.out 1).trans rfl, (Qaf BK109.out 2).trans rfl⟩ (fun hHeld => ?_)
                     clear hK K
                     refine Qbo (a' := ?_) ?_ ?_
                     rotate_left
                     · show Act.put _ (some 63) _ = _
                       simp only [Act.put, List.setIfInBounds_toArray, List.set_cons_zero, List.set_cons_succ, Qbb, Qbd]
                       rfl
                     refine pu_ 10 (some 64) #[true, true, true, true, true, true, true, true, true, true, true, false] rfl rfl ?_
                     refine last_ (i := 11) (N := none) #[true, true, true, true, true, true, true, true, true, true, true, true] rfl rfl (Qbw HT_.out (by kernel_rfl)) (by decide) (fun K hK => ?_)
                     have hs53 : w50.cell? ⟨gb109, 2, none⟩ = some (.slice Ao45 x110002_1.length co45) := (Qaf BK109.out 2).trans rfl
                     have hfs53 := Qaj BK109.out 2
                     have hns53_0 := NB101_109.out
                     have hms53_0 := NB109_101.out
                     refine skip_ (w1 := ?_) (by rfl) rfl ?_ ?_
                     rotate_left
                     · go_simp
                       rfl
                     refine hK.out _ _ ?_
                     clear hK K
                     refine done_ (QbY HT_.out (by kernel_rfl)) ?_
                     have hcz54_0 : w50.cell? ⟨gb109, 0, none⟩ = some (.int .i64 (rd l1 a2)) := (Qaf BK109.out 0).trans rfl
                     have hcz54_1 : w50.cell? ⟨gb109, 1, none⟩ = some (.int .i64 ji7) := (Qaf BK109.out 1).trans rfl
                     have hcz54_2 : w50.cell? ⟨gb109, 2, none⟩ = some (.slice Ao45 x110002_1.length co45) := (Qaf BK109.out 2).trans rfl
                     have hfz54_0 := Qaj BK109.out 0
                     have hfz54_1 := Qaj BK109.out 1
                     have hfz54_2 := Qaj BK109.out 2
                     obtain ⟨Ao55, co55, eo55⟩ := Kd.R_slice HO_10.out
                     subst eo55
                     try go_wp2_with (first | ((with_reducible refine QaW (b := .append) (xs := #[.tmp 73, .tmp 74]) rfl ?_); (try (refine Qa8 (by rfl) ?_; dsimp only)); at_builtin; refine Kd.R_append_rows QaB w.heap.size rfl (.tmp 73) (.tmp 74) 32 83 (.agg #[(.int .i64 0), (.int .i64 0)]) 16 rfl Try.underlying32 QbO rfl (by decide) (by omega) (.slice Ao52 y121.length co52) y121 t110 _ _ _ (fun k_ => some k_ ≠ (.slice Ao55 t110.length co55 : Value).ownBlock ∧ some k_ ≠ (.slice Ao51 y118.length co51 : Value).ownBlock) (fun _ => False) rfl rfl ?aO ?aR (fun _ _ h => h) (fun _ h => h.elim) ?aF (Below.refl _ _) ?aS ?aL ?_; (case aR => refine (Kd.R_reads' (e := 83) (base := w.heap.size) (ok := fun k_ => (some k_ ≠ (.slice Ao51 y118.length co51 : Value).ownBlock ∧ some k_ ≠ (.slice Ao52 y121.length co52 : Value).ownBlock)) (n := t110.length) (c := co55) ?_).2.2; exact (by (refine QaP ?_); exact (Kd.R_mono (Kd.R_far (p := ⟨gb109, 2, none⟩) (Kd.R_types HO_10.out BK109.out (by decide)) (fun _ hk => hk.2) (.slice Ao52 y121.length co52)) (fun _ h_ => h_.1)))); (case aF => exact (fun k_ hk => ⟨Kd.fresh' (Kd.R_lt (by (refine QaP ?_); exact (Kd.R_mono (Kd.R_far (p := ⟨gb109, 2, none⟩) (Kd.R_types HO_10.out BK109.out (by decide)) (fun _ hk => hk.2) (.slice Ao52 y121.length co52)) (fun _ h_ => h_.1)))) k_ hk, Kd.fresh' (Kd.R_lt (by (refine QaP ?_); exact (Kd.R_mono (Kd.R_far (p := ⟨gb109, 2, none⟩) (Kd.R_types HO120.out BK109.out (by decide)) (fun _ hk => hk.2) (.slice Ao52 y121.length co52)) (fun _ h_ => h_.1)))) k_ hk⟩)); (case aO => exact (by (refine QaP ?_); exact Kd.R_mono (Kd.R_far (p := ⟨gb109, 2, none⟩) (Kd.R_types HO123.out BK109.out (by decide)) (fun _ hk => hk.2) (.slice Ao52 y121.length co52)) (fun _ hk => ⟨hk.1.1, hk.1.2⟩))); (case aS => exact (QaC (w := w) (g := g) (row := none) (kk_))); (case aL => have := LMc41.out; omega); intro v125 w56 ho hb hg hat; rw [← Ny124.out] at ho; have n0_ := Aside0.mk (Kd.R_after (ok := (fun k_ => some k_ ≠ (.slice Ao51 y118.length co51 : Value).ownBlock)) (by (refine QaP ?_); exact Kd.R_mono (Kd.R_far (p := ⟨gb109, 2, none⟩) (Kd.R_types HO_10.out BK109.out (by decide)) (fun _ hk => hk.2) (.slice Ao52 y121.length co52)) (fun _ hk => ⟨hk.1.1, hk.1.2⟩)) hg hat); have n1_ := Aside0.mk (QaU (g := gb101) (o := .cells #[.int .i64 0, .int .i64 0, .slice none 0 0] 34 (0, 0)) (by (refine kb_ ?_); refine Qbe ?_ NB101_109.out _; (refine kb_ ?_); exact BK101.out) hg (Kd.R_ne HO123.out BK101.out (by decide))); have n2_ := Aside0.mk (QaU (g := gb109) (o := .cells #[.int .i64 (rd l1 a2), .int .i64 ji7, .slice Ao52 y121.length co52] 34 (0, 0)) (by (refine kb_ ?_); refine Qbc (cs := #[.int .i64 (rd l1 a2), .int .i64 ji7, .slice Ao45 x110002_1.length co45]) ?_ 2 _ rfl; (refine kb_ ?_); exact BK109.out) hg (Kd.R_ne HO123.out BK109.out (by decide))); have n3_ := Aside0.mk (Qad.grown (Qad.like_ HI0.out (ki_)) hg (Qad.own_ne HI0.out HO123.out (by decide))); have n4_ := Aside0.mk (Kd.R_after (ok := (fun k_ => some k_ ≠ (.slice Ao55 t110.length co55 : Value).ownBlock)) (by (refine QaP ?_); exact Kd.R_mono (Kd.R_far (p := ⟨gb109, 2, none⟩) (Kd.R_types HO120.out BK109.out (by decide)) (fun _ hk => hk.2) (.slice Ao52 y121.length co52)) (fun _ hk => ⟨hk.1.1, hk.1.2⟩)) hg hat); have n5_ := Aside0.mk (Qa5 (bx_) HL.out hb); have n6_ := Aside0.mk (Qai.trans (kk_) (Qai.of_grown hg g) (Kd.R_base2 HO123.out)); have n7_ := Aside0.mk (ho); clear HO_10; clear BK101; clear BK109; clear HI0; clear HO120; clear HB; clear HK; clear HO123; have HO_10 := n0_; have BK101 := n1_; have BK109 := n2_; have HI0 := n3_; have HO120 := n4_; have HB := n5_; have HK := n6_; have HO126 := n7_; clear n0_ n1_ n2_ n3_ n4_ n5_ n6_ n7_; clear ho hb hg hat; obtain ⟨Ao57, co57, eo57⟩ := Kd.R_slice HO126.out; subst eo57; obtain ⟨hcz58_0, hcz58_1, hcz58_2, hfz58_0, hfz58_1, hfz58_2⟩ := Qb_ BK109.out))
                     go_roundg kj21
                     case measure => have := HK1.out; have := HJ21.out; omega
                     case rel => exact ⟨(wrap64 ((x110002_1.length : Int) + 1)), (wrap64 (x9_1 + 1)), (t117), (y124), (.slice Ao57 y124.length co57), (by first | rfl | (simp; done) | (simp [*]; done)), (by first | rfl | (simp; done) | (simp [*]; done)), H', ⟨by have := HK1.out; have := HJ21.out; omega⟩, ⟨by (refine QaP ?_); exact Kd.R_mono (Kd.R_far (p := ⟨gb109, 2, none⟩) (Kd.R_types HO126.out BK109.out (by decide)) (fun _ hk => hk.2) (.slice Ao57 y124.length co57)) (fun _ hk => trivial)⟩, ⟨by (refine kb_ ?_); refine Qbe ?_ NB101_109.out _; (refine kb_ ?_); exact BK101.out⟩, ⟨by (refine kb_ ?_); refine Qbc (cs := #[.int .i64 (rd l1 a2), .int .i64 ji7, .slice Ao52 y121.length co52]) ?_ 2 _ rfl; (refine kb_ ?_); exact BK109.out⟩, ⟨ki_⟩, ⟨kk_⟩, ⟨bx_⟩⟩
                   · first | (with_reducible replace H := (if_neg c41).symm.trans H) | rw [if_neg c41] at H
                     exact absurd H (by simp)
                 · first | (with_reducible replace H := (if_neg c40).symm.trans H) | rw [if_neg c40] at H
                   have c40b0 : decide ((wrap64 ((y121.length : Int) + (t110.length : Int))) ≤ 12) = false := decide_eq_false c40
                   clear c40
                   have H' := Aside0.mk H
                   clear H
                   have hnb59 := NB109_101.out
                   have hnc59 := NB101_109.out
                   have hnb60 := NB109_0.out
                   have hnc60 := NB0_109.out
                   have hcz61_0 : wc.cell? ⟨gb109, 0, none⟩ = some (.int .i64 (rd l1 a2)) := (Qaf BK109.out 0).trans rfl
                   have hcz61_1 : wc.cell? ⟨gb109, 1, none⟩ = some (.int .i64 ji7) := (Qaf BK109.out 1).trans rfl
                   have hcz61_2 : wc.cell? ⟨gb109, 2, none⟩ = some (u110002) := (Qaf BK109.out 2).trans rfl
                   have hfz61_0 := Qaj BK109.out 0
                   have hfz61_1 := Qaj BK109.out 1
                   have hfz61_2 := Qaj BK109.out 2
                   obtain ⟨Ao62, co62, eo62⟩ := Kd.R_slice HO_110002.out
                   subst eo62
                   try go_wp2
                   have n0_ := Aside0.mk (Kd.R_drew HO_10.out)
                   have n1_ := Aside0.mk (Kd.R_drew HO_110002.out)
                   have n2_ := Aside0.mk (Qbf BK101.out)
                   have n3_ := Aside0.mk (Qbf BK109.out)
                   have n4_ := Aside0.mk (Qad.drew HI0.out)
                   have n5_ := Aside0.mk (Qcp HK.out)
                   have n6_ := Aside0.mk (Qav HB.out)
                   clear HO_10
                   clear HO_110002
                   clear BK101
                   clear BK109
                   clear HI0
                   clear HK
                   clear HB
                   have HO_10 := n0_
                   have HO_110002 := n1_
                   have BK101 := n2_
                   have BK109 := n3_
                   have HI0 := n4_
                   have HK := n5_
                   have HB := n6_
                   clear n0_ n1_ n2_ n3_ n4_ n5_ n6_
                   refine Qch (n := 12) (S := fun w' => w'.cell? ⟨gb109, 0, none⟩ = some (.int .i64 (rd l1 a2)) ∧ w'.cell? ⟨gb109, 1, none⟩ = some (.int .i64 ji7) ∧ w'.cell? ⟨gb109, 2, none⟩ = some (.slice Ao62 x110002_1.length co62)) (ds := [11]) #[false, false, false, false, false, false, false, false, false, false, false, false] (by kernel_rfl) rfl rfl ⟨(Qaf BK109.out 0).trans rfl, (Qaf BK109.out 1).trans rfl, (Qaf BK109.out 2).trans rfl⟩ (fun hHeld => ?_); refine Qby Qag.tab9 Qag.bits9 (fun HT_ HW_ => ?_)
                   generalize wc.drew = w63 at HO_10 HO_110002 BK101 BK109 HI0 HK HB hHeld ⊢
                   refine pu_ 0 (some 54) #[true, false, false, false, false, false, false, false, false, false, false, false] rfl rfl ?_
                   refine pu_ 2 (some 56) #[true, false, true, false, false, false, false, false, false, false, false, false] rfl rfl ?_
                   refine pu_ 3 (some 57) #[true, false, true, true, false, false, false, false, false, false, false, false] rfl rfl ?_
                   refine pu_ 7 (some 61) #[true, false, true, true, false, false, false, true, false, false, false, false] rfl rfl ?_
                   refine tk_ 1 (some 55) #[true, true, true, true, false, false, false, true, false, false, false, false] rfl rfl hHeld ?_
                   refine tk_ 4 (some 58) #[true, true, true, true, true, false, false, true, false, false, false, false] rfl rfl hHeld ?_
                   refine one_ (i := 5) (N := some 59) #[true, true, true, true, true, true, false, true, false, false, false, false] rfl rfl (Qbw HT_.out (by kernel_rfl)) (by decide) (fun K hK => ?_)
                   refine goes_ Try.func55 (by kernel_rfl) rfl #[.pointer (some ⟨g, 0, none⟩), .int .i64 ji7] (by rfl) rfl rfl (by (try simp only [List.map_toArray, List.map_cons, List.map_nil]); first | done | (simp only [hji7]; rfl) | rfl | (simp only [List.length_drop, List.length_take]; rfl)) ?_
                   with_reducible refine (Qab.calls kj21 g s0_0 x1001_21 ji7 t116 t117 w0 _ ?side1 ?side2 A38.out).mono ?_
                   (case side1 => repeat (first | (with_reducible first | exact HI0.out | apply Qad.alloc | apply Qad.drewN | apply Qad.drew | apply Qad.set_1 | refine Qad.far ?_ NB0_101.out _ | refine Qad.far ?_ NB0_109.out _) | exact HI0.out))
                   (case side2 => repeat (first | (with_reducible first | exact HB.out | apply Qal | apply Qar | apply Qav | refine Qaw ?_ (Qad.ge HI0.out) | refine Qaw ?_ GE101.out | refine Qaw ?_ GE109.out) | exact HB.out))
                   rintro e w64 ⟨rfl, hi, hb, hk⟩
                   refine ⟨_, rfl, ?_⟩
                   have n0_ := Aside0.mk (Kd.R_mono (Kd.R_keep (Qad.apart (show Qad w0 _ g s0_0 x1001_21 from ki_) (by (refine QaP ?_); exact HO_10.out) (by decide)) hk (fun _ h => h.2)) (fun _ h => h.1))
                   have n1_ := Aside0.mk (Kd.R_mono (Kd.R_keep (Qad.apart (show Qad w0 _ g s0_0 x1001_21 from ki_) (by (refine QaP ?_); exact HO_110002.out) (by decide)) hk (fun _ h => h.2)) (fun _ h => h.1))
                   have n2_ := Aside0.mk (Qai.blk hk (g' := gb101) (o := .cells #[.int .i64 0, .int .i64 0, .slice none 0 0] 34 (0, 0)) (by (refine kb_ ?_); exact BK101.out) NB101_0.out (by simp))
                   have n3_ := Aside0.mk (Qai.blk hk (g' := gb109) (o := .cells #[.int .i64 (rd l1 a2), .int .i64 ji7, .slice Ao62 x110002_1.length co62] 34 (0, 0)) (by (refine kb_ ?_); exact BK109.out) NB109_0.out (by simp))
                   have n4_ := Aside0.mk (Qai.trans (kk_) hk (.inl rfl))
                   have n5_ := Aside0.mk (hb)
                   have n6_ := Aside0.mk (hi)
                   clear HO_10
                   clear HO_110002
                   clear BK101
                   clear BK109
                   clear HK
                   clear HB
                   clear HI0
                   have HO_10 := n0_
                   have HO_110002 := n1_
                   have BK101 := n2_
                   have BK109 := n3_
                   have HK := n4_
                   have HB := n5_
                   have HI0 := n6_
                   clear n0_ n1_ n2_ n3_ n4_ n5_ n6_
                   (try clear hb)
                   (try clear hb2)
                   (try clear hk)
                   (try clear hi)
                   refine hK.out _ _ ⟨(Qaf BK109.out 0).trans rfl, (Qaf BK109.out 1).trans rfl, (Qaf BK109.out 2).trans rfl⟩ (fun hHeld => ?_)
                   clear hK K
                   refine Qbo (a' := ?_) ?_ ?_
                   rotate_left
                   · show Act.put _ (some 59) _ = _
                     simp only [Act.put, List.setIfInBounds_toArray, List.set_cons_zero, List.set_cons_succ, Qbb, Qbd]
                     rfl
                   refine pu_ 6 (some 60) #[true, true, true, true, true, true, true, true, false, false, false, false] rfl rfl ?_
                   refine one_ (i := 8) (N := some 62) #[true, true, true, true, true, true, true, true, true, false, false, false] rfl rfl (Qbw HT_.out (by kernel_rfl)) (by decide) (fun K hK => ?_)
                   refine Kd.R_lit_step QaB _ 83 ?hg (N := 62) ?hd (xs := ([(⟨2, t116⟩ : Qac), (⟨8, 0⟩ : Qac)] : List (Qac))) (inner := [.int .i64 2, .int .i64 t116, .int .i64 8, .int .i64 0]) (ok := fun _ => True) (okp := fun _ => True) ?hr ?hp (fun _ hk => hk) trivial (Below.refl _ _) (Nat.le_refl _) (by simp) ?_; (case hd => rfl); (case hg => rfl); (case hr => first | (go_simp; done) | (go_simp; rfl)); (case hp => exact (Qa9.c2 (show Kd.M QaB _ _ _ (⟨2, t116⟩ : Qac) [.int .i64 2, .int .i64 t116] from (Qa0 _ _ _ (⟨2, t116⟩ : Qac) )) (Qa9.c2 (show Kd.M QaB _ _ _ (⟨8, 0⟩ : Qac) [.int .i64 8, .int .i64 0] from (Qa0 _ _ _ (⟨8, 0⟩ : Qac) )) (Qa9.none _ _))))
                   intro v119 w65 ho66 hb hg_ hnew_
                   clear hg_ hnew_
                   (first | rw [← Ny118.out] at ho66 | (simp only [Int.reduceToNat] at ho66; rw [← Ny118.out] at ho66))
                   have n0_ := Aside0.mk (Kd.R_elder' (by (refine QaP ?_); exact HO_10.out) (Kd.R_base ho66) hb)
                   have n1_ := Aside0.mk (Kd.R_elder' (by (refine QaP ?_); exact HO_110002.out) (Kd.R_base ho66) hb)
                   have n2_ := Aside0.mk (Kd.R_lower (Kd.R_new' (Kd.R_new' ho66 (Kd.R_lt (by (refine QaP ?_); exact HO_10.out))) (Kd.R_lt (by (refine QaP ?_); exact HO_110002.out))) (QaC (w := w) (g := g) (row := none) (kk_)))
                   have n3_ := Aside0.mk (bb_ BK101 hb)
                   have n4_ := Aside0.mk (bb_ BK109 hb)
                   have n5_ := Aside0.mk (Qad.below (ki_) hb)
                   have n6_ := Aside0.mk (Qai.trans (kk_) (Qai.of_below hb g none) (.inl rfl))
                   have n7_ := Aside0.mk (Qap (bx_) hb)
                   clear HO_10
                   clear HO_110002
                   clear BK101
                   clear BK109
                   clear HI0
                   clear HK
                   clear HB
                   have HO_10 := n0_
                   have HO_110002 := n1_
                   have HO120 := n2_
                   have BK101 := n3_
                   have BK109 := n4_
                   have HI0 := n5_
                   have HK := n6_
                   have HB := n7_
                   clear n0_ n1_ n2_ n3_ n4_ n5_ n6_ n7_
                   clear hb ho66
                   obtain ⟨Ao68, co68, eo68⟩ := Kd.R_slice HO120.out
                   (first | subst eo68 | (injection eo68 with f1_ f2_ f3_; have f4_ := f1_.symm; have f5_ := f3_.symm; clear f1_ f2_ f3_; subst f4_; subst f5_))
                   refine hK.out _ _ ⟨(Qaf BK109.out 0).trans rfl, (Qaf BK109.out 1).trans rfl, (Qaf BK109.out 2).trans rfl⟩ (fun hHeld => ?_)
                   clear hK K
                   refine Qbo (a' := ?_) ?_ ?_
                   rotate_left
                   · show Act.put _ (some 62) _ = _
                     simp only [Act.put, List.setIfInBounds_toArray, List.set_cons_zero, List.set_cons_succ, Qbb, Qbd]
                     rfl
                   refine one_ (i := 9) (N := some 63) #[true, true, true, true, true, true, true, true, true, true, false, false] rfl rfl (Qbw HT_.out (by kernel_rfl)) (by decide) (fun K hK => ?_)
                   refine Kd.R_append_rows_step QaB w.heap.size (by rfl) (.tmp 55) (.tmp 62) 32 83 (.agg #[(.int .i64 0), (.int .i64 0)]) 16 rfl Try.underlying32 QbO rfl (by decide) (by omega) (.slice Ao62 x110002_1.length co62) x110002_1 y118 _ _ _ (fun k_ => some k_ ≠ (v111 : Value).ownBlock ∧ some k_ ≠ (.slice Ao68 y118.length co68 : Value).ownBlock) (fun _ => False) rfl rfl ?aO ?aR (fun _ _ h => h) (fun _ h => h.elim) ?aF (Below.refl _ _) ?aS ?aL ?_
                   (case aR => repeat (first | exact (Kd.R_reads' HO120.out).2.2 | (with_reducible refine Kd.C_alloc ?_ _) | (with_reducible refine Kd.C_drewN ?_ _) | (with_reducible refine Kd.C_drew ?_)))
                   (case aF => exact (fun k_ hk => ⟨Kd.fresh' (Kd.R_lt (by (refine QaP ?_); exact HO_10.out)) k_ hk, Kd.fresh' (Kd.R_lt (by (refine QaP ?_); exact HO120.out)) k_ hk⟩))
                   (case aO => exact (by (refine QaP ?_); exact HO_110002.out))
                   (case aS => exact (QaC (w := w) (g := g) (row := none) (kk_)))
                   (case aL => have := LMc39.out; omega)
                   intro v122 w67 ho hb hg hat
                   rw [← Ny121.out] at ho
                   have n0_ := Aside0.mk (Kd.R_after (ok := (fun k_ => some k_ ≠ (.slice Ao68 y118.length co68 : Value).ownBlock)) (by (refine QaP ?_); exact Kd.R_mono HO_10.out (fun _ hk => ⟨hk.2, hk.1⟩)) hg hat)
                   have n1_ := Aside0.mk (QaU (g := gb101) (o := .cells #[.int .i64 0, .int .i64 0, .slice none 0 0] 34 (0, 0)) (by (refine kb_ ?_); exact BK101.out) hg (Kd.R_ne HO_110002.out BK101.out (by decide)))
                   have n2_ := Aside0.mk (QaU (g := gb109) (o := .cells #[.int .i64 (rd l1 a2), .int .i64 ji7, .slice Ao62 x110002_1.length co62] 34 (0, 0)) (by (refine kb_ ?_); exact BK109.out) hg (Kd.R_ne HO_110002.out BK109.out (by decide)))
                   have n3_ := Aside0.mk (Qad.grown (Qad.like_ HI0.out (ki_)) hg (Qad.own_ne HI0.out HO_110002.out (by decide)))
                   have n4_ := Aside0.mk (Kd.R_after (ok := (fun k_ => some k_ ≠ (v111 : Value).ownBlock)) (by (refine QaP ?_); exact Kd.R_mono HO120.out (fun _ hk => ⟨hk.1.2, hk.2⟩)) hg hat)
                   have n5_ := Aside0.mk (Qa5 (bx_) HL.out hb)
                   have n6_ := Aside0.mk (Qai.trans (kk_) (Qai.of_grown hg g) (Kd.R_base2 HO_110002.out))
                   have n7_ := Aside0.mk (ho)
                   clear HO_10
                   clear BK101
                   clear BK109
                   clear HI0
                   clear HO120
                   clear HB
                   clear HK
                   clear HO_110002
                   have HO_10 := n0_
                   have BK101 := n1_
                   have BK109 := n2_
                   have HI0 := n3_
                   have HO120 := n4_
                   have HB := n5_
                   have HK := n6_
                   have HO123 := n7_
                   clear n0_ n1_ n2_ n3_ n4_ n5_ n6_ n7_
                   clear ho hb hg hat
                   obtain ⟨Ao69, co69, eo69⟩ := Kd.R_slice HO123.out
                   (first | subst eo69 | (injection eo69 with f1_ f2_ f3_; have f4_ := f1_.symm; have f5_ := f3_.symm; clear f1_ f2_ f3_; subst f4_; subst f5_))
                   refine hK.out _ _ ⟨(Qaf BK109.out 0).trans rfl, (Qaf BK109.out 1).trans rfl, (Qaf BK109.out 2).trans rfl⟩ (fun hHeld => ?_)
                   clear hK K
                   refine Qbo (a' := ?_) ?_ ?_
                   rotate_left
                   · show Act.put _ (some 63) _ = _
                     simp only [Act.put, List.setIfInBounds_toArray, List.set_cons_zero, List.set_cons_succ, Qbb, Qbd]
                     rfl
                   refine pu_ 10 (some 64) #[true, true, true, true, true, true, true, true, true, true, true, false] rfl rfl ?_
                   refine last_ (i := 11) (N := none) #[true, true, true, true, true, true, true, true, true, true, true, true] rfl rfl (Qbw HT_.out (by kernel_rfl)) (by decide) (fun K hK => ?_)
                   have hs70 : w67.cell? ⟨gb109, 2, none⟩ = some (.slice Ao62 x110002_1.length co62) := (Qaf BK109.out 2).trans rfl
                   have hfs70 := Qaj BK109.out 2
                   have hns70_0 := NB101_109.out
                   have hms70_0 := NB109_101.out
                   refine skip_ (w1 := ?_) (by rfl) rfl ?_ ?_
                   rotate_left
                   · go_simp
                     rfl
                   refine hK.out _ _ ?_
                   clear hK K
                   refine done_ (QbY HT_.out (by kernel_rfl)) ?_
                   have hcz71_0 : w67.cell? ⟨gb109, 0, none⟩ = some (.int .i64 (rd l1 a2)) := (Qaf BK109.out 0).trans rfl
                   have hcz71_1 : w67.cell? ⟨gb109, 1, none⟩ = some (.int .i64 ji7) := (Qaf BK109.out 1).trans rfl
                   have hcz71_2 : w67.cell? ⟨gb109, 2, none⟩ = some (.slice Ao62 x110002_1.length co62) := (Qaf BK109.out 2).trans rfl
                   have hfz71_0 := Qaj BK109.out 0
                   have hfz71_1 := Qaj BK109.out 1
                   have hfz71_2 := Qaj BK109.out 2
                   obtain ⟨Ao72, co72, eo72⟩ := Kd.R_slice HO_10.out
                   subst eo72
                   try go_wp2
                   go_roundg kj21
                   case measure => have := HK1.out; have := HJ21.out; omega
                   case rel => exact ⟨(wrap64 ((x110002_1.length : Int) + 1)), (wrap64 (x9_1 + 1)), (t117), (y121), (.slice Ao69 y121.length co69), (by first | rfl | (simp; done) | (simp [*]; done)), (by first | rfl | (simp; done) | (simp [*]; done)), H', ⟨by have := HK1.out; have := HJ21.out; omega⟩, ⟨by (refine QaP ?_); exact Kd.R_mono (Kd.R_far (p := ⟨gb109, 2, none⟩) (Kd.R_types HO123.out BK109.out (by decide)) (fun _ hk => hk.2) (.slice Ao69 y121.length co69)) (fun _ hk => trivial)⟩, ⟨by (refine kb_ ?_); refine Qbe ?_ NB101_109.out _; (refine kb_ ?_); exact BK101.out⟩, ⟨by (refine kb_ ?_); refine Qbc (cs := #[.int .i64 (rd l1 a2), .int .i64 ji7, .slice Ao62 x110002_1.length co62]) ?_ 2 _ rfl; (refine kb_ ?_); exact BK109.out⟩, ⟨ki_⟩, ⟨kk_⟩, ⟨bx_⟩⟩
               · first | (with_reducible replace H := (if_neg c39).symm.trans H) | rw [if_neg c39] at H
                 exact absurd H (by simp)
             · replace c37 := Bool.eq_false_iff.mpr c37
               subst c37
               have H1 : (if (wrap64 ((x110002_1.length : Int) + (t110.length : Int))) ≤ 12 then (if x110002_1.length + t110.length < 8796093022208 then (Qag.l0 kj21 l1 x8_1 (wrap64 (x9_1 + 1)) s0_0 x1001_21 (rd l1 a2) ji7 (x110002_1 ++ t110)) else (none)) else (Qag.l0 kj21 l1 x8_1 (wrap64 (x9_1 + 1)) s0_0 x1001_21 (rd l1 a2) ji7 x110002_1)) = some (r1, r2, r3, r4) := by rw [if_neg (show ¬ (false = true) by decide)] at H; exact H
               clear H
               have H := H1
               clear H1
               by_cases c73 : (wrap64 ((x110002_1.length : Int) + (t110.length : Int))) ≤ 12
               · first | (with_reducible replace H := (if_pos c73).symm.trans H) | rw [if_pos c73] at H
                 have c73b0 : decide ((wrap64 ((x110002_1.length : Int) + (t110.length : Int))) ≤ 12) = true := decide_eq_true c73
                 clear c73
                 by_cases c74 : x110002_1.length + t110.length < 8796093022208
                 · first | (with_reducible replace H := (if_pos c74).symm.trans H) | rw [if_pos c74] at H
                   have LMc74 := Aside0.mk c74
                   clear c74
                   obtain ⟨y127, hy127⟩ : ∃ y_ : List (Qac), y_ = (x110002_1 ++ t110) := ⟨_, rfl⟩
                   replace H : (Qag.l0 kj21 l1 x8_1 (wrap64 (x9_1 + 1)) s0_0 x1001_21 (rd l1 a2) ji7 y127) = some (r1, r2, r3, r4) := by first | (rw [hy127]; with_reducible exact H) | (have H2_ := (Option.bind_some _ _).symm.trans H; rw [hy127]; with_reducible exact H2_) | (have H2_ := (Option.bind_some _ _).symm.trans H; with_reducible exact H2_) | with_reducible exact H | (rw [hy127]; exact H) | exact H
                   have Ny127 := Aside0.mk hy127
                   clear hy127
                   have H' := Aside0.mk H
                   clear H
                   have hnb75 := NB109_101.out
                   have hnc75 := NB101_109.out
                   have hnb76 := NB109_0.out
                   have hnc76 := NB0_109.out
                   have hcz77_0 : wc.cell? ⟨gb109, 0, none⟩ = some (.int .i64 (rd l1 a2)) := (Qaf BK109.out 0).trans rfl
                   have hcz77_1 : wc.cell? ⟨gb109, 1, none⟩ = some (.int .i64 ji7) := (Qaf BK109.out 1).trans rfl
                   have hcz77_2 : wc.cell? ⟨gb109, 2, none⟩ = some (u110002) := (Qaf BK109.out 2).trans rfl
                   have hfz77_0 := Qaj BK109.out 0
                   have hfz77_1 := Qaj BK109.out 1
                   have hfz77_2 := Qaj BK109.out 2
                   obtain ⟨Ao78, co78, eo78⟩ := Kd.R_slice HO_110002.out
                   subst eo78
                   obtain ⟨Ao79, co79, eo79⟩ := Kd.R_slice HO_10.out
                   subst eo79
                   go_wp2_with (first | ((with_reducible refine QaW (b := .append) (xs := #[.tmp 73, .tmp 74]) rfl ?_); (try (refine Qa8 (by rfl) ?_; dsimp only)); at_builtin; refine Kd.R_append_rows QaB w.heap.size rfl (.tmp 73) (.tmp 74) 32 83 (.agg #[(.int .i64 0), (.int .i64 0)]) 16 rfl Try.underlying32 QbO rfl (by decide) (by omega) (.slice Ao78 x110002_1.length co78) x110002_1 t110 _ _ _ (fun k_ => some k_ ≠ (.slice Ao79 t110.length co79 : Value).ownBlock) (fun _ => False) rfl rfl ?aO ?aR (fun _ _ h => h) (fun _ h => h.elim) ?aF (Below.refl _ _) ?aS ?aL ?_; (case aR => repeat (first | exact (Kd.R_reads' HO_10.out).2.2 | (with_reducible refine Kd.C_alloc ?_ _) | (with_reducible refine Kd.C_drewN ?_ _) | (with_reducible refine Kd.C_drew ?_))); (case aF => exact (fun k_ hk => Kd.fresh' (Kd.R_lt (by (refine QaP ?_); exact HO_10.out)) k_ hk)); (case aO => exact (by (refine QaP ?_); exact HO_110002.out)); (case aS => exact (QaC (w := w) (g := g) (row := none) (kk_))); (case aL => have := LMc74.out; omega); intro v128 w80 ho hb hg hat; rw [← Ny127.out] at ho; have n0_ := Aside0.mk (Kd.R_after (ok := (fun _ => True)) (by (refine QaP ?_); exact Kd.R_mono HO_10.out (fun _ hk => ⟨trivial, hk⟩)) hg hat); have n1_ := Aside0.mk (QaU (g := gb101) (o := .cells #[.int .i64 0, .int .i64 0, .slice none 0 0] 34 (0, 0)) (by (refine kb_ ?_); exact BK101.out) hg (Kd.R_ne HO_110002.out BK101.out (by decide))); have n2_ := Aside0.mk (QaU (g := gb109) (o := .cells #[.int .i64 (rd l1 a2), .int .i64 ji7, .slice Ao78 x110002_1.length co78] 34 (0, 0)) (by (refine kb_ ?_); exact BK109.out) hg (Kd.R_ne HO_110002.out BK109.out (by decide))); have n3_ := Aside0.mk (Qad.grown (Qad.like_ HI0.out (ki_)) hg (Qad.own_ne HI0.out HO_110002.out (by decide))); have n4_ := Aside0.mk (Qa5 (bx_) HL.out hb); have n5_ := Aside0.mk (Qai.trans (kk_) (Qai.of_grown hg g) (Kd.R_base2 HO_110002.out)); have n6_ := Aside0.mk (ho); clear HO_10; clear BK101; clear BK109; clear HI0; clear HB; clear HK; clear HO_110002; have HO_10 := n0_; have BK101 := n1_; have BK109 := n2_; have HI0 := n3_; have HB := n4_; have HK := n5_; have HO129 := n6_; clear n0_ n1_ n2_ n3_ n4_ n5_ n6_; clear ho hb hg hat; obtain ⟨Ao81, co81, eo81⟩ := Kd.R_slice HO129.out; subst eo81; obtain ⟨hcz82_0, hcz82_1, hcz82_2, hfz82_0, hfz82_1, hfz82_2⟩ := Qb_ BK109.out))
                   go_roundg kj21
                   case measure => have := HK1.out; have := HJ21.out; omega
                   case rel => exact ⟨(x8_1), (wrap64 (x9_1 + 1)), (x1001_21), (y127), (.slice Ao81 y127.length co81), (by first | rfl | (simp; done) | (simp [*]; done)), (by first | rfl | (simp; done) | (simp [*]; done)), H', ⟨by have := HK1.out; have := HJ21.out; omega⟩, ⟨by (refine QaP ?_); exact Kd.R_mono (Kd.R_far (p := ⟨gb109, 2, none⟩) (Kd.R_types HO129.out BK109.out (by decide)) (fun _ hk => hk.2) (.slice Ao81 y127.length co81)) (fun _ hk => trivial)⟩, ⟨by (refine kb_ ?_); refine Qbe ?_ NB101_109.out _; (refine kb_ ?_); exact BK101.out⟩, ⟨by (refine kb_ ?_); refine Qbc (cs := #[.int .i64 (rd l1 a2), .int .i64 ji7, .slice Ao78 x110002_1.length co78]) ?_ 2 _ rfl; (refine kb_ ?_); exact BK109.out⟩, ⟨ki_⟩, ⟨kk_⟩, ⟨bx_⟩⟩
                 · first | (with_reducible replace H := (if_neg c74).symm.trans H) | rw [if_neg c74] at H
                   exact absurd H (by simp)
               · first | (with_reducible replace H := (if_neg c73).symm.trans H) | rw [if_neg c73] at H
                 have c73b0 : decide ((wrap64 ((x110002_1.length : Int) + (t110.length : Int))) ≤ 12) = false := decide_eq_false c73
                 clear c73
                 have H' := Aside0.mk H
                 clear H
                 have hnb83 := NB109_101.out
                 have hnc83 := NB101_109.out
                 have hnb84 := NB109_0.out
                 have hnc84 := NB0_109.out
                 have hcz85_0 : wc.cell? ⟨gb109, 0, none⟩ = some (.int .i64 (rd l1 a2)) := (Qaf BK109.out 0).trans rfl
                 have hcz85_1 : wc.cell? ⟨gb109, 1, none⟩ = some (.int .i64 ji7) := (Qaf BK109.out 1).trans rfl
                 have hcz85_2 : wc.cell? ⟨gb109, 2, none⟩ = some (u110002) := (Qaf BK109.out 2).trans rfl
                 have hfz85_0 := Qaj BK109.out 0
                 have hfz85_1 := Qaj BK109.out 1
                 have hfz85_2 := Qaj BK109.out 2
                 obtain ⟨Ao86, co86, eo86⟩ := Kd.R_slice HO_110002.out
                 subst eo86
                 obtain ⟨Ao87, co87, eo87⟩ := Kd.R_slice HO_10.out
                 subst eo87
                 go_wp2
                 go_roundg kj21
                 case measure => have := HK1.out; have := HJ21.out; omega
                 case rel => exact ⟨(x8_1), (wrap64 (x9_1 + 1)), (x1001_21), (x110002_1), (.slice Ao86 x110002_1.length co86), (by first | rfl | (simp; done) | (simp [*]; done)), (by first | rfl | (simp; done) | (simp [*]; done)), H', ⟨by have := HK1.out; have := HJ21.out; omega⟩, ⟨by (refine QaP ?_); exact Kd.R_mono HO_110002.out (fun _ hk => trivial)⟩, ⟨by (refine kb_ ?_); exact BK101.out⟩, ⟨by (refine kb_ ?_); exact BK109.out⟩, ⟨ki_⟩, ⟨kk_⟩, ⟨bx_⟩⟩
        · first | (with_reducible replace H := (if_neg c20).symm.trans H) | rw [if_neg c20] at H
          have c20b0 : decide (x9_1 < 4) = false := decide_eq_false c20
          clear c20
          have HC88 := Aside0.mk H
          clear H
          go_upto_if 78 with (fail)
          go_cut [] (fun wc => ∃ (kq : Nat) (x110002_87 : List (Qac)) (u110002 : Value), Aside0 (Qag.j2 kq s0_0 x1001_1 (rd l1 a2) ji7 x110002_87 = some (r1, r2, r3, r4)) ∧ Aside0 (kq ≤ k1) ∧ Aside0 (Kd.R QaB 83 wc w.heap.size (fun _ => True) u110002 x110002_87) ∧ Aside0 (wc.heap[gb101]? = some (.cells #[.int .i64 0, .int .i64 0, (.slice none 0 0)] 34 (0, 0))) ∧ Aside0 (wc.heap[gb109]? = some (.cells #[.int .i64 (rd l1 a2), .int .i64 ji7, u110002] 34 (0, 0))) ∧ Aside0 (Qad w0 wc g s0_0 x1001_1) ∧ Aside0 (Qai w wc g none) ∧ Aside0 (Below w0.heap.size w0 wc))
          case first =>
           have H := HC88.out
           clear HC88
           by_cases c89 : x8_1 ≥ 0
           · first | (with_reducible replace H := (if_pos c89).symm.trans H) | rw [if_pos c89] at H
             have c89b0 : decide (0 ≤ x8_1) = true := decide_eq_true c89
             clear c89
             (first | rw [c89b0] | (simp only [Qbb, Qbd]; rw [c89b0]) | skip)
             by_cases c90 : 0 ≤ x8_1
             · first | (with_reducible replace H := (if_pos c90).symm.trans H) | rw [if_pos c90] at H
               have c90b0 : decide (0 ≤ x8_1) = true := decide_eq_true c90
               clear c90
               by_cases c91 : x8_1 < (x110002_1.length : Int)
               · first | (with_reducible replace H := (if_pos c91).symm.trans H) | rw [if_pos c91] at H
                 have c91b0 : decide (x8_1 < (x110002_1.length : Int)) = true := decide_eq_true c91
                 clear c91
                 obtain ⟨y130, hy130⟩ : ∃ y_ : List (Qac), y_ = (x110002_1.set (x8_1 : Int).toNat (⟨(Qah x110002_1 x8_1).f0, (x110002_1.length : Int)⟩ : Qac)) := ⟨_, rfl⟩
                 replace H : (Qag.j2 k1 s0_0 x1001_1 (rd l1 a2) ji7 y130) = some (r1, r2, r3, r4) := by first | (rw [hy130]; with_reducible exact H) | (have H2_ := (Option.bind_some _ _).symm.trans H; rw [hy130]; with_reducible exact H2_) | (have H2_ := (Option.bind_some _ _).symm.trans H; with_reducible exact H2_) | with_reducible exact H | (rw [hy130]; exact H) | exact H
                 have Ny130 := Aside0.mk hy130
                 clear hy130
                 have H' := Aside0.mk H
                 clear H
                 have hnb93 := NB109_101.out
                 have hnc93 := NB101_109.out
                 have hnb94 := NB109_0.out
                 have hnc94 := NB0_109.out
                 have hcz95_0 : wr.cell? ⟨gb109, 0, none⟩ = some (.int .i64 (rd l1 a2)) := (Qaf BK109.out 0).trans rfl
                 have hcz95_1 : wr.cell? ⟨gb109, 1, none⟩ = some (.int .i64 ji7) := (Qaf BK109.out 1).trans rfl
                 have hcz95_2 : wr.cell? ⟨gb109, 2, none⟩ = some (u110002) := (Qaf BK109.out 2).trans rfl
                 have hfz95_0 := Qaj BK109.out 0
                 have hfz95_1 := Qaj BK109.out 1
                 have hfz95_2 := Qaj BK109.out 2
                 obtain ⟨Ao96, co96, eo96⟩ := Kd.R_slice HO_110002.out
                 subst eo96
                 have p92 : 0 ≤ (x8_1 : Int) := of_decide_eq_true (by first | (with_reducible assumption) | assumption)
                 have q92 : (x8_1 : Int) < ((x110002_1.length : Int) : Int) := of_decide_eq_true (by first | (with_reducible assumption) | assumption)
                 obtain ⟨go92, co92, eo92, gb92, gl92, cl92, HG92⟩ := Kd.R_form HO_110002.out (by omega)
                 (first | cases eo92 | (injection eo92 with ea_ en_ ec_; (first | subst ea_ | (injection ea_ with ea_; subst ea_)); subst ec_; clear en_))
                 have GB92 := Aside0.mk gb92
                 have GG92 := Aside0.mk HG92
                 clear gb92 gl92 HG92
                 obtain ⟨ce92, hcl92, hM92, hcc92, hfr92⟩ := Kd.R_elem HO_110002.out z_impl_Op (x8_1 : Int) p92 q92
                 obtain rfl := k_impl_Op_openM hM92
                 have hx92_0 : wr.cell? ⟨go92, (x8_1 : Int).toNat * 2, none⟩ = some (.int .i64 ((Qah x110002_1 x8_1).f0)) := hcc92 0 _ rfl
                 have hx92_1 : wr.cell? ⟨go92, (x8_1 : Int).toNat * 2 + 1, none⟩ = some (.int .i64 ((Qah x110002_1 x8_1).f1)) := hcc92 1 _ rfl
                 have hf92_0 : wr.frozen? ⟨go92, (x8_1 : Int).toNat * 2, none⟩ = false := hfr92 0
                 have hf92_1 : wr.frozen? ⟨go92, (x8_1 : Int).toNat * 2 + 1, none⟩ = false := hfr92 1
                 clear hcl92 hcc92 hfr92 hM92
                 replace p92 := eq_true p92
                 replace q92 := eq_true q92
                 have HX97 := Aside0.mk (show Kd.R QaB 83 wr w.heap.size (fun _ => True) (.slice (some ⟨go92, 0, none⟩) x110002_1.length co96) x110002_1 from (by (refine QaP ?_); exact HO_110002.out))
                 obtain ⟨ce97, hcl97, hM97, hcc97, hfr97⟩ := Kd.R_elem HX97.out z_impl_Op (x8_1 : Int) (of_decide_eq_true (by first | (with_reducible assumption) | assumption)) (by have h_ : (x8_1 : Int) < ((x110002_1.length : Int) : Int) := of_decide_eq_true (by first | (with_reducible assumption) | assumption); first | exact h_ | (have e_ := (Kd.R_reads' HO_110002.out).1; omega) | simpa using h_)
                 obtain rfl := k_impl_Op_openM hM97
                 have HP97 := Kd.R_seg HX97.out (x8_1 : Int) (of_decide_eq_true (by first | (with_reducible assumption) | assumption)) (by have h_ : (x8_1 : Int) < ((x110002_1.length : Int) : Int) := of_decide_eq_true (by first | (with_reducible assumption) | assumption); first | exact h_ | (have e_ := (Kd.R_reads' HO_110002.out).1; omega) | simpa using h_) (seg := [.int .i64 (x110002_1.length : Int)]) (j := 1) hcl97 hcc97 (show 2 ≤ 2 from by decide) (x' := (⟨(Qah x110002_1 x8_1).f0, (x110002_1.length : Int)⟩ : Qac)) (Qa0 _ _ _ (⟨(Qah x110002_1 x8_1).f0, (x110002_1.length : Int)⟩ : Qac) ) (fun _ hk => hk)
                 have hx97_1 := hcc97 1 _ rfl
                 (try simp only [show (QaB).sz = 2 from rfl, Nat.mul_one, Nat.add_zero] at hx97_1)
                 have hf97_1 := hfr97 1
                 (try simp only [show (QaB).sz = 2 from rfl, Nat.mul_one, Nat.add_zero] at hf97_1)
                 clear hcl97 hcc97 hfr97 hM97
                 go_wp2_with (first | ((with_reducible refine Qcb (t := 3) (p := 86) rfl ?_); refine Qb3 (t := 3) (p := 86) (v := ?vo_w98) (w1 := (wr.setCell ⟨go92, (x8_1 : Int).toNat * 2 + 1, none⟩ (.int .i64 (x110002_1.length : Int)))) ?hg ?ho ?hn ?hr ?_; (case ho => rfl); (case hg => rfl); (case hn => rfl); (case hr => first | (go_simp; done) | (go_simp; rfl)); intro w98 hw; have hg : wr.grownBy w98 (some go92) := (by rw [hw]; exact HP97.2); have hp_ : Kd.R QaB 83 w98 w.heap.size (fun _ => True) (.slice (some ⟨go92, 0, none⟩) x110002_1.length co96) y130 := (by rw [hw, Ny130.out]; exact HP97.1); clear HP97; have n0_ := Aside0.mk (hp_); have n1_ := Aside0.mk (QaU (g := gb101) (o := .cells #[.int .i64 0, .int .i64 0, .slice none 0 0] 34 (0, 0)) (by (refine kb_ ?_); exact BK101.out) hg (Kd.R_ne HO_110002.out BK101.out (by decide))); have n2_ := Aside0.mk (QaU (g := gb109) (o := .cells #[.int .i64 (rd l1 a2), .int .i64 ji7, .slice (some ⟨go92, 0, none⟩) x110002_1.length co96] 34 (0, 0)) (by (refine kb_ ?_); exact BK109.out) hg (Kd.R_ne HO_110002.out BK109.out (by decide))); have n3_ := Aside0.mk (Qad.grown (Qad.like_ HI0.out (ki_)) hg (Qad.own_ne HI0.out HO_110002.out (by decide))); have n4_ := Aside0.mk ((by rw [hw]; exact Qaw (HB.out) (Nat.le_trans HL.out GB92.out) : Below w0.heap.size w0 w98)); have n5_ := Aside0.mk (Qai.trans (kk_) (Qai.of_grown hg g) (Kd.R_base2 HO_110002.out)); clear HO_110002; clear BK101; clear BK109; clear HI0; clear HB; clear HK; have HO_110002 := n0_; have BK101 := n1_; have BK109 := n2_; have HI0 := n3_; have HB := n4_; have HK := n5_; clear n0_ n1_ n2_ n3_ n4_ n5_; clear hg hw hp_))
                 go_meet
                 case rel => exact ⟨_, (y130), (.slice (some ⟨go92, 0, none⟩) x110002_1.length co96), H', ⟨by have := HK1.out; first | omega | exact Nat.le_refl _⟩, ⟨by (refine QaP ?_); exact HO_110002.out⟩, ⟨by (refine kb_ ?_); exact BK101.out⟩, ⟨by (refine kb_ ?_); exact BK109.out⟩, ⟨ki_⟩, ⟨kk_⟩, ⟨bx_⟩⟩
               · first | (with_reducible replace H := (if_neg c91).symm.trans H) | rw [if_neg c91] at H
                 exact absurd H (by simp)
             · first | (with_reducible replace H := (if_neg c90).symm.trans H) | rw [if_neg c90] at H
               exact absurd H (by simp)
           · first | (with_reducible replace H := (if_neg c89).symm.trans H) | rw [if_neg c89] at H
             have c89b0 : decide (0 ≤ x8_1) = false := decide_eq_false c89
             clear c89
             (first | rw [c89b0] | (simp only [Qbb, Qbd]; rw [c89b0]) | skip)
             have H' := Aside0.mk H
             clear H
             go_wp2
             go_meet
             case rel => exact ⟨_, (x110002_1), (u110002), H', ⟨by have := HK1.out; first | omega | exact Nat.le_refl _⟩, ⟨by (refine QaP ?_); exact HO_110002.out⟩, ⟨by (refine kb_ ?_); exact BK101.out⟩, ⟨by (refine kb_ ?_); exact BK109.out⟩, ⟨ki_⟩, ⟨kk_⟩, ⟨bx_⟩⟩
          case rest =>
           clear HC88
           try clear c2
           try clear p2
           try clear c3
           try clear c4
           try clear c5
           try clear c6
           try clear p6
           try clear c7
           try clear c8
           try clear c9
           try clear p9
           try clear q9
           try clear hx9
           try clear hf9
           try clear c20
           try clear c20b0
           try clear c37
           try clear c39
           try clear c40
           try clear c40b0
           try clear c41
           try clear c55
           try clear c59
           try clear c60
           try clear p64
           try clear c73
           try clear c73b0
           try clear c74
           try clear c75
           try clear c76
           try clear c83
           try clear c84
           try clear c89
           try clear c89b0
           try clear c90
           try clear c90b0
           try clear c91
           try clear c91b0
           try clear c92
           try clear p92
           try clear q92
           try clear hx92
           try clear hf92
           try clear c93
           try clear c94
           try clear c97
           try clear hx97
           try clear hf97
           try clear hcz54_0
           try clear hcz54_1
           try clear hcz54_2
           try clear hcz58_0
           try clear hcz58_1
           try clear hcz58_2
           try clear hcz61_0
           try clear hcz61_1
           try clear hcz61_2
           try clear hcz71_0
           try clear hcz71_1
           try clear hcz71_2
           try clear hcz77_0
           try clear hcz77_1
           try clear hcz77_2
           try clear hcz82_0
           try clear hcz82_1
           try clear hcz82_2
           try clear hcz85_0
           try clear hcz85_1
           try clear hcz85_2
           try clear hcz95_0
           try clear hcz95_1
           try clear hcz95_2
           try clear hfz54_0
           try clear hfz54_1
           try clear hfz54_2
           try clear hfz58_0
           try clear hfz58_1
           try clear hfz58_2
           try clear hfz61_0
           try clear hfz61_1
           try clear hfz61_2
           try clear hfz71_0
           try clear hfz71_1
           try clear hfz71_2
           try clear hfz77_0
           try clear hfz77_1
           try clear hfz77_2
           try clear hfz82_0
           try clear hfz82_1
           try clear hfz82_2
           try clear hfz85_0
           try clear hfz85_1
           try clear hfz85_2
           try clear hfz95_0
           try clear hfz95_1
           try clear hfz95_2
           try clear hx92_0
           try clear hx92_1
           try clear hx97_1
           try clear p92
           try clear q92
           obtain ⟨kq, x110002_87, u110002, HA, HJ87, HO_110002, BK101, BK109, HI0, HK, HB⟩ := hcut
           cases kq with
           | zero => exact absurd HA.out (by simp [Qag.j2])
           | succ kj87 =>
             have H := HA.out
             clear HA
             simp only [Qag.j2] at H
             replace H := Option.bind_eq_some_iff.mp H
             obtain ⟨⟨t131, t132⟩, A990, H⟩ := H
             replace H : (if t131 = 0 then (if x110002_87.length < 8796093022208 then ((some (x110002_87 ++ [(⟨11, 0⟩ : Qac)] : List (Qac))).bind fun y133 => (if y133.length < 8796093022208 then (some ((rd l1 a2), ji7, (y133 ++ [(⟨10, 0⟩ : Qac)]), t132)) else (none))) else (none)) else ((Qab.f kj87 s0_0 t132 ji7).bind fun bt139 => (if x110002_87.length < 8796093022208 then ((some (x110002_87 ++ [(⟨2, bt139.1⟩ : Qac)] : List (Qac))).bind fun y141 => (if y141.length < 8796093022208 then (some ((rd l1 a2), ji7, (y141 ++ [(⟨10, 0⟩ : Qac)]), bt139.2)) else (none))) else (none)))) = some (r1, r2, r3, r4) := H
             have A99 := Aside0.mk A990
             clear A990
             by_cases c100 : t131 = 0
             · first | (with_reducible replace H := (if_pos c100).symm.trans H) | rw [if_pos c100] at H
               have c100b0 : (t131 == 0) = true := beq_iff_eq.mpr c100
               have c100b1 : (t131 != 0) = false := bne_eq_false_iff_eq.mpr c100
               clear c100
               by_cases c101 : x110002_87.length < 8796093022208
               · first | (with_reducible replace H := (if_pos c101).symm.trans H) | rw [if_pos c101] at H
                 have LMc101 := Aside0.mk c101
                 clear c101
                 obtain ⟨y133, hy133⟩ : ∃ y_ : List (Qac), y_ = (x110002_87 ++ [(⟨11, 0⟩ : Qac)]) := ⟨_, rfl⟩
                 replace H : (if y133.length < 8796093022208 then (some ((rd l1 a2), ji7, (y133 ++ [(⟨10, 0⟩ : Qac)]), t132)) else (none)) = some (r1, r2, r3, r4) := by first | (rw [hy133]; with_reducible exact H) | (have H2_ := (Option.bind_some _ _).symm.trans H; rw [hy133]; with_reducible exact H2_) | (have H2_ := (Option.bind_some _ _).symm.trans H; with_reducible exact H2_) | with_reducible exact H | (rw [hy133]; exact H) | exact H
                 have Ny133 := Aside0.mk hy133
                 clear hy133
                 by_cases c102 : y133.length < 8796093022208
                 · first | (with_reducible replace H := (if_pos c102).symm.trans H) | rw [if_pos c102] at H
                   have LMc102 := Aside0.mk c102
                   clear c102
                   obtain ⟨y136, hy136⟩ : ∃ y_ : List (Qac), y_ = (y133 ++ [(⟨10, 0⟩ : Qac)]) := ⟨_, rfl⟩
                   replace H : (some ((rd l1 a2), ji7, y136, t132)) = some (r1, r2, r3, r4) := by first | (rw [hy136]; with_reducible exact H) | (have H2_ := (Option.bind_some _ _).symm.trans H; rw [hy136]; with_reducible exact H2_) | (have H2_ := (Option.bind_some _ _).symm.trans H; with_reducible exact H2_) | with_reducible exact H | (rw [hy136]; exact H) | exact H
                   have Ny136 := Aside0.mk hy136
                   clear hy136
                   simp only [Option.some.injEq, Prod.mk.injEq] at H
                   obtain ⟨rfl, rfl, rfl, rfl⟩ := H
                   go_wp2_with (first | ((with_reducible refine Qax (f := 55) rfl ?_); refine QaX (some 88) rfl rfl Try.func55 (by kernel_rfl) rfl #[.pointer (some ⟨g, 0, none⟩), .int .i64 3] rfl (by (try simp only [List.map_toArray, List.map_cons, List.map_nil]); first | done | rfl | (simp only [List.length_drop, List.length_take]; rfl)) ?_; (with_reducible refine (Qab.calls kj87 g s0_0 x1001_1 3 t131 t132 w0 _ ?side1 ?side2 A99.out).mono ?_); (case side1 => repeat (first | (with_reducible first | exact HI0.out | apply Qad.alloc | apply Qad.drewN | apply Qad.drew | apply Qad.set_1 | refine Qad.far ?_ NB0_101.out _ | refine Qad.far ?_ NB0_109.out _) | exact HI0.out)); (case side2 => repeat (first | (with_reducible first | exact HB.out | apply Qal | apply Qar | apply Qav | refine Qaw ?_ (Qad.ge HI0.out) | refine Qaw ?_ GE101.out | refine Qaw ?_ GE109.out) | exact HB.out)); rintro e w103 ⟨rfl, hi, hb, hk⟩; refine ⟨_, rfl, ?_⟩; have n0_ := Aside0.mk (Kd.R_mono (Kd.R_keep (Qad.apart (show Qad w0 _ g s0_0 x1001_1 from ki_) (by (refine QaP ?_); exact HO_110002.out) (by decide)) hk (fun _ h => h.2)) (fun _ h => h.1)); have n1_ := Aside0.mk (Qai.blk hk (g' := gb101) (o := .cells #[.int .i64 0, .int .i64 0, .slice none 0 0] 34 (0, 0)) (by (refine kb_ ?_); exact BK101.out) NB101_0.out (by simp)); have n2_ := Aside0.mk (Qai.blk hk (g' := gb109) (o := .cells #[.int .i64 (rd l1 a2), .int .i64 ji7, u110002] 34 (0, 0)) (by (refine kb_ ?_); exact BK109.out) NB109_0.out (by simp)); have n3_ := Aside0.mk (Qai.trans (kk_) hk (.inl rfl)); have n4_ := Aside0.mk (hb); have n5_ := Aside0.mk (hi); clear HO_110002; clear BK101; clear BK109; clear HK; clear HB; clear HI0; have HO_110002 := n0_; have BK101 := n1_; have BK109 := n2_; have HK := n3_; have HB := n4_; have HI0 := n5_; clear n0_ n1_ n2_ n3_ n4_ n5_; (try clear hb); (try clear hb2); (try clear hk); (try clear hi); have hnb104 := NB109_101.out; have hnc104 := NB101_109.out; have hnb105 := NB109_0.out; have hnc105 := NB0_109.out; obtain ⟨hcz106_0, hcz106_1, hcz106_2, hfz106_0, hfz106_1, hfz106_2⟩ := Qb_ BK109.out) | ((with_reducible refine QaW (b := .append) (xs := #[.tmp 91, .tmp 93]) rfl ?_); (try (refine Qa8 (by rfl) ?_; dsimp only)); at_builtin; refine Kd.R_append QaB w.heap.size rfl (.tmp 91) (.tmp 93) 32 83 (.agg #[(.int .i64 0), (.int .i64 0)]) 16 rfl Try.underlying32 QbO rfl (by decide) (by omega) u110002 x110002_87 (⟨11, 0⟩ : Qac) [.int .i64 11, .int .i64 0] (fun _ => True) (fun _ => False) rfl rfl ?aP (fun _ hk => hk.elim) ?aF ?aO (Below.refl _ _) ?aS ?aL ?_; (case aP => exact Qa0 _ _ _ (⟨11, 0⟩ : Qac)); (case aF => exact (fun _ _ => trivial)); (case aO => exact (by (refine QaP ?_); exact HO_110002.out)); (case aS => exact (QaC (w := w) (g := g) (row := none) (kk_))); (case aL => have := LMc101.out; omega); intro v134 w107 ho hb hg hat; rw [← Ny133.out] at ho; have n0_ := Aside0.mk (QaU (g := gb101) (o := .cells #[.int .i64 0, .int .i64 0, .slice none 0 0] 34 (0, 0)) (by (refine kb_ ?_); exact BK101.out) hg (Kd.R_ne HO_110002.out BK101.out (by decide))); have n1_ := Aside0.mk (QaU (g := gb109) (o := .cells #[.int .i64 (rd l1 a2), .int .i64 ji7, u110002] 34 (0, 0)) (by (refine kb_ ?_); exact BK109.out) hg (Kd.R_ne HO_110002.out BK109.out (by decide))); have n2_ := Aside0.mk (Qad.grown (Qad.like_ HI0.out (ki_)) hg (Qad.own_ne HI0.out HO_110002.out (by decide))); have n3_ := Aside0.mk (Qa5 (bx_) HL.out hb); have n4_ := Aside0.mk (Qai.trans (kk_) (Qai.of_grown hg g) (Kd.R_base2 HO_110002.out)); have n5_ := Aside0.mk (ho); clear BK101; clear BK109; clear HI0; clear HB; clear HK; clear HO_110002; have BK101 := n0_; have BK109 := n1_; have HI0 := n2_; have HB := n3_; have HK := n4_; have HO135 := n5_; clear n0_ n1_ n2_ n3_ n4_ n5_; clear ho hb hg hat; obtain ⟨Ao108, co108, eo108⟩ := Kd.R_slice HO135.out; subst eo108; obtain ⟨hcz109_0, hcz109_1, hcz109_2, hfz109_0, hfz109_1, hfz109_2⟩ := Qb_ BK109.out) | ((with_reducible refine QaW (b := .append) (xs := #[.tmp 107, .tmp 109]) rfl ?_); (try (refine Qa8 (by rfl) ?_; dsimp only)); at_builtin; refine Kd.R_append QaB w.heap.size rfl (.tmp 107) (.tmp 109) 32 83 (.agg #[(.int .i64 0), (.int .i64 0)]) 16 rfl Try.underlying32 QbO rfl (by decide) (by omega) (.slice Ao108 y133.length co108) y133 (⟨10, 0⟩ : Qac) [.int .i64 10, .int .i64 0] (fun _ => True) (fun _ => False) rfl (by first | (go_simp; done) | (go_simp; rfl)) ?aP (fun _ hk => hk.elim) ?aF ?aO (Below.refl _ _) ?aS ?aL ?_; (case aP => exact Qa0 _ _ _ (⟨10, 0⟩ : Qac)); (case aF => exact (fun _ _ => trivial)); (case aO => exact (by (refine QaP ?_); exact Kd.R_mono (Kd.R_far (p := ⟨gb109, 2, none⟩) (Kd.R_types HO135.out BK109.out (by decide)) (fun _ hk => hk.2) (.slice Ao108 y133.length co108)) (fun _ hk => trivial))); (case aS => exact (QaC (w := w) (g := g) (row := none) (kk_))); (case aL => have := LMc102.out; omega); intro v137 w110 ho hb hg hat; rw [← Ny136.out] at ho; have n0_ := Aside0.mk (QaU (g := gb101) (o := .cells #[.int .i64 0, .int .i64 0, .slice none 0 0] 34 (0, 0)) (by (refine kb_ ?_); refine Qbe ?_ NB101_109.out _; (refine kb_ ?_); exact BK101.out) hg (Kd.R_ne HO135.out BK101.out (by decide))); have n1_ := Aside0.mk (QaU (g := gb109) (o := .cells #[.int .i64 (rd l1 a2), .int .i64 ji7, .slice Ao108 y133.length co108] 34 (0, 0)) (by (refine kb_ ?_); refine Qbc (cs := #[.int .i64 (rd l1 a2), .int .i64 ji7, u110002]) ?_ 2 _ rfl; (refine kb_ ?_); exact BK109.out) hg (Kd.R_ne HO135.out BK109.out (by decide))); have n2_ := Aside0.mk (Qad.grown (Qad.like_ HI0.out (ki_)) hg (Qad.own_ne HI0.out HO135.out (by decide))); have n3_ := Aside0.mk (Qa5 (bx_) HL.out hb); have n4_ := Aside0.mk (Qai.trans (kk_) (Qai.of_grown hg g) (Kd.R_base2 HO135.out)); have n5_ := Aside0.mk (ho); clear BK101; clear BK109; clear HI0; clear HB; clear HK; clear HO135; have BK101 := n0_; have BK109 := n1_; have HI0 := n2_; have HB := n3_; have HK := n4_; have HO138 := n5_; clear n0_ n1_ n2_ n3_ n4_ n5_; clear ho hb hg hat; obtain ⟨Ao111, co111, eo111⟩ := Kd.R_slice HO138.out; subst eo111; obtain ⟨hcz112_0, hcz112_1, hcz112_2, hfz112_0, hfz112_1, hfz112_2⟩ := Qb_ BK109.out; have hnb113 := NB101_0.out; have hnc113 := NB0_101.out; obtain ⟨hcz114_0, hcz114_1, hcz114_2, hfz114_0, hfz114_1, hfz114_2⟩ := Qb_ BK101.out))
                   refine bodyPost_ret (results_cell_row rfl _ _ gb101 34 #[.int .i64 (rd l1 a2), .int .i64 ji7, .slice Ao111 y136.length co111] (0, 0) _ rfl (by (refine kb_ ?_); refine Qbc (cs := #[.int .i64 (rd l1 a2), .int .i64 ji7, .slice none 0 0]) ?_ 2 _ rfl; (refine kb_ ?_); refine Qbc (cs := #[.int .i64 (rd l1 a2), .int .i64 0, .slice none 0 0]) ?_ 1 _ rfl; (refine kb_ ?_); refine Qbc (cs := #[.int .i64 0, .int .i64 0, .slice none 0 0]) ?_ 0 _ rfl; (refine kb_ ?_); refine Qbe ?_ NB101_109.out _; (refine kb_ ?_); exact BK101.out) Try.underlying34 rfl (by kernel_rfl)) rfl ?_
                   exact ⟨_, by first | rfl | (simp [Qan, Qao] <;> rfl) | (simp only [← hji7]; first | rfl | (simp [Qan, Qao] <;> rfl)) | (simp [*, Qan, Qao] <;> rfl), by (refine QaP ?_); exact Kd.R_mono (Kd.R_far (p := ⟨gb101, 2, none⟩) (Kd.R_far (p := ⟨gb101, 1, none⟩) (Kd.R_far (p := ⟨gb101, 0, none⟩) (Kd.R_far (p := ⟨gb109, 2, none⟩) (Kd.R_types (Kd.R_types HO138.out BK109.out (by decide)) BK101.out (by decide)) (fun _ hk => hk.1.2) (.slice Ao111 y136.length co111)) (fun _ hk => hk.2) (.int .i64 (rd l1 a2))) (fun _ hk => hk.2) (.int .i64 ji7)) (fun _ hk => hk.2) (.slice Ao111 y136.length co111)) (fun _ hk => trivial), ki_, bx_, kk_⟩
                 · first | (with_reducible replace H := (if_neg c102).symm.trans H) | rw [if_neg c102] at H
                   exact absurd H (by simp)
               · first | (with_reducible replace H := (if_neg c101).symm.trans H) | rw [if_neg c101] at H
                 exact absurd H (by simp)
             · first | (with_reducible replace H := (if_neg c100).symm.trans H) | rw [if_neg c100] at H
               have c100b0 : (t131 == 0) = false := beq_eq_false_iff_ne.mpr c100
               have c100b1 : (t131 != 0) = true := bne_iff_ne.mpr c100
               replace H := Option.bind_eq_some_iff.mp H
               obtain ⟨⟨t139, t140⟩, A1150, H⟩ := H
               replace H : (if x110002_87.length < 8796093022208 then ((some (x110002_87 ++ [(⟨2, t139⟩ : Qac)] : List (Qac))).bind fun y141 => (if y141.length < 8796093022208 then (some ((rd l1 a2), ji7, (y141 ++ [(⟨10, 0⟩ : Qac)]), t140)) else (none))) else (none)) = some (r1, r2, r3, r4) := H
               have A115 := Aside0.mk A1150
               clear A1150
               by_cases c116 : x110002_87.length < 8796093022208
               · first | (with_reducible replace H := (if_pos c116).symm.trans H) | rw [if_pos c116] at H
                 have LMc116 := Aside0.mk c116
                 clear c116
                 obtain ⟨y141, hy141⟩ : ∃ y_ : List (Qac), y_ = (x110002_87 ++ [(⟨2, t139⟩ : Qac)]) := ⟨_, rfl⟩
                 replace H : (if y141.length < 8796093022208 then (some ((rd l1 a2), ji7, (y141 ++ [(⟨10, 0⟩ : Qac)]), t140)) else (none)) = some (r1, r2, r3, r4) := by first | (rw [hy141]; with_reducible exact H) | (have H2_ := (Option.bind_some _ _).symm.trans H; rw [hy141]; with_reducible exact H2_) | (have H2_ := (Option.bind_some _ _).symm.trans H; with_reducible exact H2_) | with_reducible exact H | (rw [hy141]; exact H) | exact H
                 have Ny141 := Aside0.mk hy141
                 clear hy141
                 by_cases c117 : y141.length < 8796093022208
                 · first | (with_reducible replace H := (if_pos c117).symm.trans H) | rw [if_pos c117] at H
                   have LMc117 := Aside0.mk c117
                   clear c117
                   obtain ⟨y144, hy144⟩ : ∃ y_ : List (Qac), y_ = (y141 ++ [(⟨10, 0⟩ : Qac)]) := ⟨_, rfl⟩
                   replace H : (some ((rd l1 a2), ji7, y144, t140)) = some (r1, r2, r3, r4) := by first | (rw [hy144]; with_reducible exact H) | (have H2_ := (Option.bind_some _ _).symm.trans H; rw [hy144]; with_reducible exact H2_) | (have H2_ := (Option.bind_some _ _).symm.trans H; with_reducible exact H2_) | with_reducible exact H | (rw [hy144]; exact H) | exact H
                   have Ny144 := Aside0.mk hy144
                   clear hy144
                   simp only [Option.some.injEq, Prod.mk.injEq] at H
                   obtain ⟨rfl, rfl, rfl, rfl⟩ := H
                   try go_wp2_with (first | ((with_reducible refine Qax (f := 55) rfl ?_); refine QaX (some 88) rfl rfl Try.func55 (by kernel_rfl) rfl #[.pointer (some ⟨g, 0, none⟩), .int .i64 3] rfl (by (try simp only [List.map_toArray, List.map_cons, List.map_nil]); first | done | rfl | (simp only [List.length_drop, List.length_take]; rfl)) ?_; (with_reducible refine (Qab.calls kj87 g s0_0 x1001_1 3 t131 t132 w0 _ ?side1 ?side2 A99.out).mono ?_); (case side1 => repeat (first | (with_reducible first | exact HI0.out | apply Qad.alloc | apply Qad.drewN | apply Qad.drew | apply Qad.set_1 | refine Qad.far ?_ NB0_101.out _ | refine Qad.far ?_ NB0_109.out _) | exact HI0.out)); (case side2 => repeat (first | (with_reducible first | exact HB.out | apply Qal | apply Qar | apply Qav | refine Qaw ?_ (Qad.ge HI0.out) | refine Qaw ?_ GE101.out | refine Qaw ?_ GE109.out) | exact HB.out)); rintro e w118 ⟨rfl, hi, hb, hk⟩; refine ⟨_, rfl, ?_⟩; have n0_ := Aside0.mk (Kd.R_mono (Kd.R_keep (Qad.apart (show Qad w0 _ g s0_0 x1001_1 from ki_) (by (refine QaP ?_); exact HO_110002.out) (by decide)) hk (fun _ h => h.2)) (fun _ h => h.1)); have n1_ := Aside0.mk (Qai.blk hk (g' := gb101) (o := .cells #[.int .i64 0, .int .i64 0, .slice none 0 0] 34 (0, 0)) (by (refine kb_ ?_); exact BK101.out) NB101_0.out (by simp)); have n2_ := Aside0.mk (Qai.blk hk (g' := gb109) (o := .cells #[.int .i64 (rd l1 a2), .int .i64 ji7, u110002] 34 (0, 0)) (by (refine kb_ ?_); exact BK109.out) NB109_0.out (by simp)); have n3_ := Aside0.mk (Qai.trans (kk_) hk (.inl rfl)); have n4_ := Aside0.mk (hb); have n5_ := Aside0.mk (hi); clear HO_110002; clear BK101; clear BK109; clear HK; clear HB; clear HI0; have HO_110002 := n0_; have BK101 := n1_; have BK109 := n2_; have HK := n3_; have HB := n4_; have HI0 := n5_; clear n0_ n1_ n2_ n3_ n4_ n5_; (try clear hb); (try clear hb2); (try clear hk); (try clear hi)))
                   have n0_ := Aside0.mk (Kd.R_drew HO_110002.out)
                   have n1_ := Aside0.mk (Qbf BK101.out)
                   have n2_ := Aside0.mk (Qbf BK109.out)
                   have n3_ := Aside0.mk (Qad.drew HI0.out)
                   have n4_ := Aside0.mk (Qcp HK.out)
                   have n5_ := Aside0.mk (Qav HB.out)
                   clear HO_110002
                   clear BK101
                   clear BK109
                   clear HI0
                   clear HK
                   clear HB
                   have HO_110002 := n0_
                   have BK101 := n1_
                   have BK109 := n2_
                   have HI0 := n3_
                   have HK := n4_
                   have HB := n5_
                   clear n0_ n1_ n2_ n3_ n4_ n5_
                   refine Qch (n := 11) (S := fun w' => w'.cell? ⟨gb109, 0, none⟩ = some (.int .i64 (rd l1 a2)) ∧ w'.cell? ⟨gb109, 1, none⟩ = some (.int .i64 ji7) ∧ w'.cell? ⟨gb109, 2, none⟩ = some (u110002)) (ds := [10]) #[false, false, false, false, false, false, false, false, false, false, false] (by kernel_rfl) rfl rfl ⟨(Qaf BK109.out 0).trans rfl, (Qaf BK109.out 1).trans rfl, (Qaf BK109.out 2).trans rfl⟩ (fun hHeld => ?_); refine Qby Qag.tab16 Qag.bits16 (fun HT_ HW_ => ?_)
                   generalize w118.drew = w119 at HO_110002 BK101 BK109 HI0 HK HB hHeld ⊢
                   refine pu_ 0 (some 96) #[true, false, false, false, false, false, false, false, false, false, false] rfl rfl ?_
                   refine pu_ 2 (some 98) #[true, false, true, false, false, false, false, false, false, false, false] rfl rfl ?_
                   refine pu_ 3 (some 99) #[true, false, true, true, false, false, false, false, false, false, false] rfl rfl ?_
                   refine tk_ 1 (some 97) #[true, true, true, true, false, false, false, false, false, false, false] rfl rfl hHeld ?_
                   refine tk_ 4 (some 100) #[true, true, true, true, true, false, false, false, false, false, false] rfl rfl hHeld ?_
                   refine one_ (i := 5) (N := some 101) #[true, true, true, true, true, true, false, false, false, false, false] rfl rfl (Qbw HT_.out (by kernel_rfl)) (by decide) (fun K hK => ?_)
                   refine goes_ Try.func55 (by kernel_rfl) rfl #[.pointer (some ⟨g, 0, none⟩), .int .i64 ji7] (by rfl) rfl rfl (by (try simp only [List.map_toArray, List.map_cons, List.map_nil]); first | done | (simp only [hji7]; rfl) | rfl | (simp only [List.length_drop, List.length_take]; rfl)) ?_
                   with_reducible refine (Qab.calls kj87 g s0_0 t132 ji7 t139 t140 w0 _ ?side1 ?side2 A115.out).mono ?_
                   (case side1 => repeat (first | (with_reducible first | exact HI0.out | apply Qad.alloc | apply Qad.drewN | apply Qad.drew | apply Qad.set_1 | refine Qad.far ?_ NB0_101.out _ | refine Qad.far ?_ NB0_109.out _) | exact HI0.out))
                   (case side2 => repeat (first | (with_reducible first | exact HB.out | apply Qal | apply Qar | apply Qav | refine Qaw ?_ (Qad.ge HI0.out) | refine Qaw ?_ GE101.out | refine Qaw ?_ GE109.out) | exact HB.out))
                   rintro e w120 ⟨rfl, hi, hb, hk⟩
                   refine ⟨_, rfl, ?_⟩
                   have n0_ := Aside0.mk (Kd.R_mono (Kd.R_keep (Qad.apart (show Qad w0 _ g s0_0 t132 from ki_) (by (refine QaP ?_); exact HO_110002.out) (by decide)) hk (fun _ h => h.2)) (fun _ h => h.1))
                   have n1_ := Aside0.mk (Qai.blk hk (g' := gb101) (o := .cells #[.int .i64 0, .int .i64 0, .slice none 0 0] 34 (0, 0)) (by (refine kb_ ?_); exact BK101.out) NB101_0.out (by simp))
                   have n2_ := Aside0.mk (Qai.blk hk (g' := gb109) (o := .cells #[.int .i64 (rd l1 a2), .int .i64 ji7, u110002] 34 (0, 0)) (by (refine kb_ ?_); exact BK109.out) NB109_0.out (by simp))
                   have n3_ := Aside0.mk (Qai.trans (kk_) hk (.inl rfl))
                   have n4_ := Aside0.mk (hb)
                   have n5_ := Aside0.mk (hi)
                   clear HO_110002
                   clear BK101
                   clear BK109
                   clear HK
                   clear HB
                   clear HI0
                   have HO_110002 := n0_
                   have BK101 := n1_
                   have BK109 := n2_
                   have HK := n3_
                   have HB := n4_
                   have HI0 := n5_
                   clear n0_ n1_ n2_ n3_ n4_ n5_
                   (try clear hb)
                   (try clear hb2)
                   (try clear hk)
                   (try clear hi)
                   refine hK.out _ _ ⟨(Qaf BK109.out 0).trans rfl, (Qaf BK109.out 1).trans rfl, (Qaf BK109.out 2).trans rfl⟩ (fun hHeld => ?_)
                   clear hK K
                   refine Qbo (a' := ?_) ?_ ?_
                   rotate_left
                   · show Act.put _ (some 101) _ = _
                     simp only [Act.put, List.setIfInBounds_toArray, List.set_cons_zero, List.set_cons_succ, Qbb, Qbd]
                     rfl
                   refine pu_ 6 (some 102) #[true, true, true, true, true, true, true, false, false, false, false] rfl rfl ?_
                   refine one_ (i := 7) (N := some 103) #[true, true, true, true, true, true, true, true, false, false, false] rfl rfl (Qbw HT_.out (by kernel_rfl)) (by decide) (fun K hK => ?_)
                   refine value_ (w1 := ?_) (v := ?_) (by rfl) rfl ?_ ?_
                   rotate_left 2
                   · go_simp
                     constructor
                     · rfl
                     · rfl
                   refine hK.out _ _ ⟨(Qaf (Qb7 BK109.out _) 0).trans rfl, (Qaf (Qb7 BK109.out _) 1).trans rfl, (Qaf (Qb7 BK109.out _) 2).trans rfl⟩ (fun hHeld => ?_)
                   clear hK K
                   refine Qbo (a' := ?_) ?_ ?_
                   rotate_left
                   · show Act.put _ (some 103) _ = _
                     simp only [Act.put, List.setIfInBounds_toArray, List.set_cons_zero, List.set_cons_succ, Qbb, Qbd]
                     rfl
                   refine one_ (i := 8) (N := some 104) #[true, true, true, true, true, true, true, true, true, false, false] rfl rfl (Qbw HT_.out (by kernel_rfl)) (by decide) (fun K hK => ?_)
                   refine Kd.R_append_step QaB w.heap.size (by rfl) (.tmp 97) (.tmp 103) 32 83 (.agg #[(.int .i64 0), (.int .i64 0)]) 16 rfl Try.underlying32 QbO rfl (by decide) (by omega) u110002 x110002_87 (⟨2, t139⟩ : Qac) [.int .i64 2, .int .i64 t139] (fun _ => True) (fun _ => False) rfl rfl ?aP (fun _ hk => hk.elim) ?aF ?aO (Below.refl _ _) ?aS ?aL ?_
                   (case aP => exact Qa0 _ _ _ (⟨2, t139⟩ : Qac))
                   (case aF => exact (fun _ _ => trivial))
                   (case aO => exact (by (refine QaP ?_); exact HO_110002.out))
                   (case aS => exact (QaC (w := w) (g := g) (row := none) (kk_)))
                   (case aL => have := LMc116.out; omega)
                   intro v142 w121 ho hb hg hat
                   rw [← Ny141.out] at ho
                   have n0_ := Aside0.mk (QaU (g := gb101) (o := .cells #[.int .i64 0, .int .i64 0, .slice none 0 0] 34 (0, 0)) (by (refine kb_ ?_); exact BK101.out) hg (Kd.R_ne HO_110002.out BK101.out (by decide)))
                   have n1_ := Aside0.mk (QaU (g := gb109) (o := .cells #[.int .i64 (rd l1 a2), .int .i64 ji7, u110002] 34 (0, 0)) (by (refine kb_ ?_); exact BK109.out) hg (Kd.R_ne HO_110002.out BK109.out (by decide)))
                   have n2_ := Aside0.mk (Qad.grown (Qad.like_ HI0.out (ki_)) hg (Qad.own_ne HI0.out HO_110002.out (by decide)))
                   have n3_ := Aside0.mk (Qa5 (bx_) HL.out hb)
                   have n4_ := Aside0.mk (Qai.trans (kk_) (Qai.of_grown hg g) (Kd.R_base2 HO_110002.out))
                   have n5_ := Aside0.mk (ho)
                   clear BK101
                   clear BK109
                   clear HI0
                   clear HB
                   clear HK
                   clear HO_110002
                   have BK101 := n0_
                   have BK109 := n1_
                   have HI0 := n2_
                   have HB := n3_
                   have HK := n4_
                   have HO143 := n5_
                   clear n0_ n1_ n2_ n3_ n4_ n5_
                   clear ho hb hg hat
                   obtain ⟨Ao122, co122, eo122⟩ := Kd.R_slice HO143.out
                   (first | subst eo122 | (injection eo122 with f1_ f2_ f3_; have f4_ := f1_.symm; have f5_ := f3_.symm; clear f1_ f2_ f3_; subst f4_; subst f5_))
                   refine hK.out _ _ ⟨(Qaf BK109.out 0).trans rfl, (Qaf BK109.out 1).trans rfl, (Qaf BK109.out 2).trans rfl⟩ (fun hHeld => ?_)
                   clear hK K
                   refine Qbo (a' := ?_) ?_ ?_
                   rotate_left
                   · show Act.put _ (some 104) _ = _
                     simp only [Act.put, List.setIfInBounds_toArray, List.set_cons_zero, List.set_cons_succ, Qbb, Qbd]
                     rfl
                   refine pu_ 9 (some 105) #[true, true, true, true, true, true, true, true, true, true, false] rfl rfl ?_
                   refine last_ (i := 10) (N := none) #[true, true, true, true, true, true, true, true, true, true, true] rfl rfl (Qbw HT_.out (by kernel_rfl)) (by decide) (fun K hK => ?_)
                   have hs123 : w121.cell? ⟨gb109, 2, none⟩ = some (u110002) := (Qaf BK109.out 2).trans rfl
                   have hfs123 := Qaj BK109.out 2
                   have hns123_0 := NB101_109.out
                   have hms123_0 := NB109_101.out
                   refine skip_ (w1 := ?_) (by rfl) rfl ?_ ?_
                   rotate_left
                   · go_simp
                     rfl
                   refine hK.out _ _ ?_
                   clear hK K
                   refine done_ (QbY HT_.out (by kernel_rfl)) ?_
                   have hnb124 := NB109_101.out
                   have hnc124 := NB101_109.out
                   have hnb125 := NB109_0.out
                   have hnc125 := NB0_109.out
                   have hcz126_0 : w121.cell? ⟨gb109, 0, none⟩ = some (.int .i64 (rd l1 a2)) := (Qaf BK109.out 0).trans rfl
                   have hcz126_1 : w121.cell? ⟨gb109, 1, none⟩ = some (.int .i64 ji7) := (Qaf BK109.out 1).trans rfl
                   have hcz126_2 : w121.cell? ⟨gb109, 2, none⟩ = some (u110002) := (Qaf BK109.out 2).trans rfl
                   have hfz126_0 := Qaj BK109.out 0
                   have hfz126_1 := Qaj BK109.out 1
                   have hfz126_2 := Qaj BK109.out 2
                   try go_wp2_with (first | ((with_reducible refine QaW (b := .append) (xs := #[.tmp 107, .tmp 109]) rfl ?_); (try (refine Qa8 (by rfl) ?_; dsimp only)); at_builtin; refine Kd.R_append QaB w.heap.size rfl (.tmp 107) (.tmp 109) 32 83 (.agg #[(.int .i64 0), (.int .i64 0)]) 16 rfl Try.underlying32 QbO rfl (by decide) (by omega) (.slice Ao122 y141.length co122) y141 (⟨10, 0⟩ : Qac) [.int .i64 10, .int .i64 0] (fun _ => True) (fun _ => False) rfl (by first | (go_simp; done) | (go_simp; rfl)) ?aP (fun _ hk => hk.elim) ?aF ?aO (Below.refl _ _) ?aS ?aL ?_; (case aP => exact Qa0 _ _ _ (⟨10, 0⟩ : Qac)); (case aF => exact (fun _ _ => trivial)); (case aO => exact (by (refine QaP ?_); exact Kd.R_mono (Kd.R_far (p := ⟨gb109, 2, none⟩) (Kd.R_types HO143.out BK109.out (by decide)) (fun _ hk => hk.2) (.slice Ao122 y141.length co122)) (fun _ hk => trivial))); (case aS => exact (QaC (w := w) (g := g) (row := none) (kk_))); (case aL => have := LMc117.out; omega); intro v145 w127 ho hb hg hat; rw [← Ny144.out] at ho; have n0_ := Aside0.mk (QaU (g := gb101) (o := .cells #[.int .i64 0, .int .i64 0, .slice none 0 0] 34 (0, 0)) (by (refine kb_ ?_); refine Qbe ?_ NB101_109.out _; (refine kb_ ?_); exact BK101.out) hg (Kd.R_ne HO143.out BK101.out (by decide))); have n1_ := Aside0.mk (QaU (g := gb109) (o := .cells #[.int .i64 (rd l1 a2), .int .i64 ji7, .slice Ao122 y141.length co122] 34 (0, 0)) (by (refine kb_ ?_); refine Qbc (cs := #[.int .i64 (rd l1 a2), .int .i64 ji7, u110002]) ?_ 2 _ rfl; (refine kb_ ?_); exact BK109.out) hg (Kd.R_ne HO143.out BK109.out (by decide))); have n2_ := Aside0.mk (Qad.grown (Qad.like_ HI0.out (ki_)) hg (Qad.own_ne HI0.out HO143.out (by decide))); have n3_ := Aside0.mk (Qa5 (bx_) HL.out hb); have n4_ := Aside0.mk (Qai.trans (kk_) (Qai.of_grown hg g) (Kd.R_base2 HO143.out)); have n5_ := Aside0.mk (ho); clear BK101; clear BK109; clear HI0; clear HB; clear HK; clear HO143; have BK101 := n0_; have BK109 := n1_; have HI0 := n2_; have HB := n3_; have HK := n4_; have HO146 := n5_; clear n0_ n1_ n2_ n3_ n4_ n5_; clear ho hb hg hat; obtain ⟨Ao128, co128, eo128⟩ := Kd.R_slice HO146.out; subst eo128; obtain ⟨hcz129_0, hcz129_1, hcz129_2, hfz129_0, hfz129_1, hfz129_2⟩ := Qb_ BK109.out; have hnb130 := NB101_0.out; have hnc130 := NB0_101.out; obtain ⟨hcz131_0, hcz131_1, hcz131_2, hfz131_0, hfz131_1, hfz131_2⟩ := Qb_ BK101.out))
                   refine bodyPost_ret (results_cell_row rfl _ _ gb101 34 #[.int .i64 (rd l1 a2), .int .i64 ji7, .slice Ao128 y144.length co128] (0, 0) _ rfl (by (refine kb_ ?_); refine Qbc (cs := #[.int .i64 (rd l1 a2), .int .i64 ji7, .slice none 0 0]) ?_ 2 _ rfl; (refine kb_ ?_); refine Qbc (cs := #[.int .i64 (rd l1 a2), .int .i64 0, .slice none 0 0]) ?_ 1 _ rfl; (refine kb_ ?_); refine Qbc (cs := #[.int .i64 0, .int .i64 0, .slice none 0 0]) ?_ 0 _ rfl; (refine kb_ ?_); refine Qbe ?_ NB101_109.out _; (refine kb_ ?_); exact BK101.out) Try.underlying34 rfl (by kernel_rfl)) rfl ?_
                   exact ⟨_, by first | rfl | (simp [Qan, Qao] <;> rfl) | (simp only [← hji7]; first | rfl | (simp [Qan, Qao] <;> rfl)) | (simp [*, Qan, Qao] <;> rfl), by (refine QaP ?_); exact Kd.R_mono (Kd.R_far (p := ⟨gb101, 2, none⟩) (Kd.R_far (p := ⟨gb101, 1, none⟩) (Kd.R_far (p := ⟨gb101, 0, none⟩) (Kd.R_far (p := ⟨gb109, 2, none⟩) (Kd.R_types (Kd.R_types HO146.out BK109.out (by decide)) BK101.out (by decide)) (fun _ hk => hk.1.2) (.slice Ao128 y144.length co128)) (fun _ hk => hk.2) (.int .i64 (rd l1 a2))) (fun _ hk => hk.2) (.int .i64 ji7)) (fun _ hk => hk.2) (.slice Ao128 y144.length co128)) (fun _ hk => trivial), ki_, bx_, kk_⟩
                 · first | (with_reducible replace H := (if_neg c117).symm.trans H) | rw [if_neg c117] at H
                   exact absurd H (by simp)
               · first | (with_reducible replace H := (if_neg c116).symm.trans H) | rw [if_neg c116] at H
                 exact absurd H (by simp)
   · first | (with_reducible replace H := (if_neg c5).symm.trans H) | rw [if_neg c5] at H
     exact absurd H (by simp)
 · first | (with_reducible replace H := (if_neg c4).symm.trans H) | rw [if_neg c4] at H
   exact absurd H (by simp)
end Go.Proofs.Ytabcijheemjplaa.G
