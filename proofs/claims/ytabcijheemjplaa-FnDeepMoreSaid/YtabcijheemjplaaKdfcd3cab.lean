import Derived.Test.YtabcijheemjplaaK6ca9bb5a
namespace Go.Proofs.Ytabcijheemjplaa.G
open Go.RowKit Go.Proofs.YtabcijheemjplaaW.PrintWords Go.Proofs.YtabcijheemjplaaW.PrintLast Go.Proofs.YtabcijheemjplaaW.PrintMore
attribute [local go_sem] QaQ QaR Qa3 Qa4 QaJ QaK QaS QaT
set_option linter.unusedVariables false
set_option linter.unusedSimpArgs false
mutual
def Qay.j0 : Nat → List Int → Int → Int → Bool → List Int → Int → Option ((List (Qac)) × Int)
 | 0, _, _, _, _, _, _ => none
 | k + 1, x1, x2, x10, x22, x1000, x1001 => if x22 = true then ((Qab.f k x1000 x1001 (x1.length : Int)).bind fun bt117 => (if 0 ≤ bt117.1 then (if bt117.1 < (x1.length : Int) then ((QaE.f k x1000 bt117.2 (rd x1 bt117.1) x2).bind fun bt120 => (if bt120.1.length < 8796093022208 then ((some (bt120.1 ++ [(⟨9, bt117.1⟩ : Qac)] : List (Qac))).bind fun y124 => ((QaV.f k x1000 bt120.2 x2).bind fun bt127 => (if y124.length < 8796093022208 then (some ((y124 ++ [(⟨bt127.1, bt127.2.1⟩ : Qac)]), bt127.2.2)) else (none)))) else (none))) else (none)) else (none))) else (if x10 = 4 then (Qay.j1 k x2 x10 (x10 == 4) x1000 x1001) else (Qay.j1 k x2 x10 (x10 == 5) x1000 x1001))
def Qay.j1 : Nat → Int → Int → Bool → List Int → Int → Option ((List (Qac)) × Int)
 | 0, _, _, _, _, _ => none
 | k + 1, x2, x10, x47, x1000, x1001 => if x47 = true then ((Qau.f k x1000 x1001 x2).bind fun bt133 => ((QaV.f k x1000 bt133.2 x2).bind fun bt137 => (if bt133.1.length < 8796093022208 then (some ((bt133.1 ++ [(⟨bt137.1, bt137.2.1⟩ : Qac)]), bt137.2.2)) else (none)))) else (if x10 = 6 then ((Qab.f k x1000 x1001 x2).bind fun bt143 => ((Qam.f k (([11, 0, 3, bt143.1] : List Int))).bind fun t148 => (some (t148, bt143.2)))) else (if x10 = 7 then ((Qab.f k x1000 x1001 2).bind fun bt151 => (if bt151.1 = 0 then ((Qab.f k x1000 bt151.2 9).bind fun bt153 => ((Qab.f k x1000 bt153.2 4).bind fun bt155 => ((Qam.f k (([11, 0, 12, 0, 1, bt153.1, 14, bt155.1] : List Int))).bind fun t160 => (some (t160, bt155.2))))) else ((Qab.f k x1000 bt151.2 x2).bind fun bt163 => ((Qab.f k x1000 bt163.2 x2).bind fun bt165 => ((Qam.f k (([2, bt163.1, 2, bt165.1, 6, 0, 16, 0] : List Int))).bind fun t170 => (some (t170, bt165.2))))))) else (if x10 = 8 then ((Qab.f k x1000 x1001 x2).bind fun bt173 => ((Qab.f k x1000 bt173.2 9).bind fun bt175 => ((Qam.f k (([2, bt173.1, 1, bt175.1, 15, 0] : List Int))).bind fun t180 => (if t180.length < 8796093022208 then (some ((t180 ++ [(⟨4, 0⟩ : Qac)]), bt175.2)) else (none))))) else ((Qab.f k x1000 x1001 50).bind fun bt186 => ((Qab.f k x1000 bt186.2 50).bind fun bt188 => ((Qam.f k (([1, bt186.1, 1, bt188.1, 5, 0, 16, 0] : List Int))).bind fun t193 => (some (t193, bt188.2))))))))
end
def Qay.f (k : Nat) (s0_0 : List Int) (s0_1 : Int) (l1 : List Int) (a2 : Int) : Option ((List (Qac)) × Int) := (Qab.f k s0_0 s0_1 10).bind fun bt101 => (if bt101.1 = 0 then ((Qab.f k s0_0 bt101.2 20).bind fun bt103 => ((Qam.f k (([1, bt103.1] : List Int))).bind fun t108 => ((QaV.f k s0_0 bt103.2 a2).bind fun bt111 => (if t108.length < 8796093022208 then (some ((t108 ++ [(⟨bt111.1, bt111.2.1⟩ : Qac)]), bt111.2.2)) else (none))))) else (if bt101.1 = 1 then (Qay.j0 k l1 a2 bt101.1 (bt101.1 == 1) s0_0 bt101.2) else (if bt101.1 = 2 then (Qay.j0 k l1 a2 bt101.1 (bt101.1 == 2) s0_0 bt101.2) else (Qay.j0 k l1 a2 bt101.1 (bt101.1 == 3) s0_0 bt101.2))))
theorem Qay.mono_l : ∀ k, (∀ y0 y1 y2 y3 y4 y5, LeO (Qay.j0 k y0 y1 y2 y3 y4 y5) (Qay.j0 (k + 1) y0 y1 y2 y3 y4 y5)) ∧ (∀ y0 y1 y2 y3 y4, LeO (Qay.j1 k y0 y1 y2 y3 y4) (Qay.j1 (k + 1) y0 y1 y2 y3 y4))
 | 0 => ⟨fun _ _ _ _ _ _ r h => by simp [Qay.j0] at h, fun _ _ _ _ _ r h => by simp [Qay.j1] at h⟩
 | k + 1 => by
   obtain ⟨ih0, ih1⟩ := Qay.mono_l k
   refine ⟨?_, ?_⟩
   · intro y0 y1 y2 y3 y4 y5
     unfold Qay.j0
     repeat' first
     | (with_reducible exact ih0 _ _ _ _ _ _)
     | (with_reducible exact ih1 _ _ _ _ _)
     | (with_reducible exact Qab.mono _ _ _ _)
     | (with_reducible exact QaE.mono _ _ _ _ _)
     | (with_reducible exact QaV.mono _ _ _ _)
     | (with_reducible exact Qau.mono _ _ _ _)
     | (with_reducible exact Qam.mono _ _)
     | (with_reducible exact LeO.refl _)
     | (with_reducible exact LeO.none _)
     | (with_reducible refine LeO.ite ?_ ?_)
     | (with_reducible refine LeO.bind ?_ (fun _ => ?_))
     | exact ih0 _ _ _ _ _ _
     | exact ih1 _ _ _ _ _
     | exact Qab.mono _ _ _ _
     | exact QaE.mono _ _ _ _ _
     | exact QaV.mono _ _ _ _
     | exact Qau.mono _ _ _ _
     | exact Qam.mono _ _
     | exact LeO.none _
     | refine LeO.ite ?_ ?_
     | refine LeO.bind ?_ (fun _ => ?_)
   · intro y0 y1 y2 y3 y4
     unfold Qay.j1
     repeat' first
     | (with_reducible exact ih0 _ _ _ _ _ _)
     | (with_reducible exact ih1 _ _ _ _ _)
     | (with_reducible exact Qab.mono _ _ _ _)
     | (with_reducible exact QaE.mono _ _ _ _ _)
     | (with_reducible exact QaV.mono _ _ _ _)
     | (with_reducible exact Qau.mono _ _ _ _)
     | (with_reducible exact Qam.mono _ _)
     | (with_reducible exact LeO.refl _)
     | (with_reducible exact LeO.none _)
     | (with_reducible refine LeO.ite ?_ ?_)
     | (with_reducible refine LeO.bind ?_ (fun _ => ?_))
     | exact ih0 _ _ _ _ _ _
     | exact ih1 _ _ _ _ _
     | exact Qab.mono _ _ _ _
     | exact QaE.mono _ _ _ _ _
     | exact QaV.mono _ _ _ _
     | exact Qau.mono _ _ _ _
     | exact Qam.mono _ _
     | exact LeO.none _
     | refine LeO.ite ?_ ?_
     | refine LeO.bind ?_ (fun _ => ?_)
theorem Qay.mono : ∀ a0 a1 a2 a3 k, LeO (Qay.f k a0 a1 a2 a3) (Qay.f (k + 1) a0 a1 a2 a3) := by
 intro a0 a1 a2 a3 k
 obtain ⟨ih0, ih1⟩ := Qay.mono_l k
 unfold Qay.f
 repeat' first
  | (with_reducible exact ih0 _ _ _ _ _ _)
  | (with_reducible exact ih1 _ _ _ _ _)
  | (with_reducible exact Qab.mono _ _ _ _)
  | (with_reducible exact QaE.mono _ _ _ _ _)
  | (with_reducible exact QaV.mono _ _ _ _)
  | (with_reducible exact Qau.mono _ _ _ _)
  | (with_reducible exact Qam.mono _ _)
  | (with_reducible exact LeO.refl _)
  | (with_reducible exact LeO.none _)
  | (with_reducible refine LeO.ite ?_ ?_)
  | (with_reducible refine LeO.bind ?_ (fun _ => ?_))
  | exact ih0 _ _ _ _ _ _
  | exact ih1 _ _ _ _ _
  | exact Qab.mono _ _ _ _
  | exact QaE.mono _ _ _ _ _
  | exact QaV.mono _ _ _ _
  | exact Qau.mono _ _ _ _
  | exact Qam.mono _ _
  | exact LeO.none _
  | refine LeO.ite ?_ ?_
  | refine LeO.bind ?_ (fun _ => ?_)
set_option maxHeartbeats 8000000 in
set_option maxRecDepth 100000 in
theorem Qay.calls (k : Nat) (g : Nat) (s0_0 : List Int) (s0_1 : Int) (A1 : Option Addr) (c1 : Nat) (l1 : List Int) (a2 : Int) (r1 : List (Qac)) (r2 : Int) (w0 w : World) (hI : Qad w0 w g s0_0 s0_1) (hB : Below w0.heap.size w0 w) (hr1 : Kd.C (Kd.int .i64) w A1 l1.length l1) (hc1 : l1.length ≤ c1) (hf1 : ∀ ad, A1 = some ad → 0 < l1.length → ad.block ≠ g) (h : Qay.f k s0_0 s0_1 l1 a2 = some (r1, r2)) :
 Calls Try.prog 128 #[.pointer (some ⟨g, 0, none⟩), .slice A1 l1.length c1, .int .i64 a2] w fun e w' => ∃ v0_ : Value, e = .returned (v0_) ∧ Kd.R QaB 83 w' w.heap.size (fun _ => True) v0_ r1 ∧ Qad w0 w' g s0_0 r2 ∧ Below w0.heap.size w0 w' ∧ Qai w w' g none := by
 have hu83 := Try.underlying83
 have HR1 := Aside0.mk hr1
 have HC1 := Aside0.mk hc1
 clear hr1 hc1
 have HI0 := Aside0.mk hI
 have HK := Aside0.mk (Qai.refl w g none)
 have HL := Aside0.mk hB.size
 clear hI
 have HW0 := Aside0.mk hB.size
 have HB := Aside0.mk hB
 clear hB
 have H : ((Qab.f k s0_0 s0_1 10).bind fun bt101 => (if bt101.1 = 0 then ((Qab.f k s0_0 bt101.2 20).bind fun bt103 => ((Qam.f k (([1, bt103.1] : List Int))).bind fun t108 => ((QaV.f k s0_0 bt103.2 a2).bind fun bt111 => (if t108.length < 8796093022208 then (some ((t108 ++ [(⟨bt111.1, bt111.2.1⟩ : Qac)]), bt111.2.2)) else (none))))) else (if bt101.1 = 1 then (Qay.j0 k l1 a2 bt101.1 (bt101.1 == 1) s0_0 bt101.2) else (if bt101.1 = 2 then (Qay.j0 k l1 a2 bt101.1 (bt101.1 == 2) s0_0 bt101.2) else (Qay.j0 k l1 a2 bt101.1 (bt101.1 == 3) s0_0 bt101.2))))) = some (r1, r2) := h
 clear h
 replace H := Option.bind_eq_some_iff.mp H
 obtain ⟨⟨t101, t102⟩, A40, H⟩ := H
 replace H : (if t101 = 0 then ((Qab.f k s0_0 t102 20).bind fun bt103 => ((Qam.f k (([1, bt103.1] : List Int))).bind fun t108 => ((QaV.f k s0_0 bt103.2 a2).bind fun bt111 => (if t108.length < 8796093022208 then (some ((t108 ++ [(⟨bt111.1, bt111.2.1⟩ : Qac)]), bt111.2.2)) else (none))))) else (if t101 = 1 then (Qay.j0 k l1 a2 t101 (t101 == 1) s0_0 t102) else (if t101 = 2 then (Qay.j0 k l1 a2 t101 (t101 == 2) s0_0 t102) else (Qay.j0 k l1 a2 t101 (t101 == 3) s0_0 t102)))) = some (r1, r2) := H
 have A4 := Aside0.mk A40
 clear A40
 by_cases c5 : t101 = 0
 · rw [if_pos c5] at H
   have c5b0 : (t101 == 0) = true := beq_iff_eq.mpr c5
   have c5b1 : (t101 != 0) = false := bne_eq_false_iff_eq.mpr c5
   clear c5
   replace H := Option.bind_eq_some_iff.mp H
   obtain ⟨⟨t103, t104⟩, A60, H⟩ := H
   replace H : ((Qam.f k (([1, t103] : List Int))).bind fun t108 => ((QaV.f k s0_0 t104 a2).bind fun bt111 => (if t108.length < 8796093022208 then (some ((t108 ++ [(⟨bt111.1, bt111.2.1⟩ : Qac)]), bt111.2.2)) else (none)))) = some (r1, r2) := H
   have A6 := Aside0.mk A60
   clear A60
   obtain ⟨y105, hy105⟩ : ∃ y_ : List Int, y_ = (([1, t103] : List Int)) := ⟨_, rfl⟩
   replace H : ((Qam.f k y105).bind fun t108 => ((QaV.f k s0_0 t104 a2).bind fun bt111 => (if t108.length < 8796093022208 then (some ((t108 ++ [(⟨bt111.1, bt111.2.1⟩ : Qac)]), bt111.2.2)) else (none)))) = some (r1, r2) := by first | (rw [hy105]; with_reducible exact H) | (have H2_ := (Option.bind_some _ _).symm.trans H; rw [hy105]; with_reducible exact H2_) | (have H2_ := (Option.bind_some _ _).symm.trans H; with_reducible exact H2_) | with_reducible exact H | (rw [hy105]; exact H) | exact H
   have Ny105 := Aside0.mk hy105
   clear hy105
   replace H := Option.bind_eq_some_iff.mp H
   obtain ⟨t108, A70, H⟩ := H
   replace H : ((QaV.f k s0_0 t104 a2).bind fun bt111 => (if t108.length < 8796093022208 then (some ((t108 ++ [(⟨bt111.1, bt111.2.1⟩ : Qac)]), bt111.2.2)) else (none))) = some (r1, r2) := H
   have A7 := Aside0.mk A70
   clear A70
   replace H := Option.bind_eq_some_iff.mp H
   obtain ⟨⟨t111, t112, t113⟩, A80, H⟩ := H
   replace H : (if t108.length < 8796093022208 then (some ((t108 ++ [(⟨t111, t112⟩ : Qac)]), t113)) else (none)) = some (r1, r2) := H
   have A8 := Aside0.mk A80
   clear A80
   by_cases c9 : t108.length < 8796093022208
   · rw [if_pos c9] at H
     have LMc9 := Aside0.mk c9
     clear c9
     obtain ⟨y114, hy114⟩ : ∃ y_ : List (Qac), y_ = (t108 ++ [(⟨t111, t112⟩ : Qac)]) := ⟨_, rfl⟩
     replace H : (some (y114, t113)) = some (r1, r2) := by first | (rw [hy114]; with_reducible exact H) | (have H2_ := (Option.bind_some _ _).symm.trans H; rw [hy114]; with_reducible exact H2_) | (have H2_ := (Option.bind_some _ _).symm.trans H; with_reducible exact H2_) | with_reducible exact H | (rw [hy114]; exact H) | exact H
     have Ny114 := Aside0.mk hy114
     clear hy114
     simp only [Option.some.injEq, Prod.mk.injEq] at H
     obtain ⟨rfl, rfl⟩ := H
     go_enter Try.func128, Try.ntmps128
     go_wp2_with (first | ((with_reducible refine Qax (f := 55) rfl ?_); refine QaX (some 10) rfl rfl Try.func55 (by kernel_rfl) rfl #[.pointer (some ⟨g, 0, none⟩), .int .i64 10] rfl (by (try simp only [List.map_toArray, List.map_cons, List.map_nil]); first | done | rfl | (simp only [List.length_drop, List.length_take]; rfl)) ?_; (with_reducible refine (Qab.calls k g s0_0 s0_1 10 t101 t102 w0 _ ?side1 ?side2 A4.out).mono ?_); (case side1 => repeat (first | (with_reducible first | exact HI0.out | apply Qad.alloc | apply Qad.drewN | apply Qad.drew | apply Qad.set_1) | exact HI0.out)); (case side2 => repeat (first | (with_reducible first | exact HB.out | apply Qal | apply Qar | apply Qav | refine Qaw ?_ (Qad.ge HI0.out)) | exact HB.out)); rintro e w10 ⟨rfl, hi, hb, hk⟩; refine ⟨_, rfl, ?_⟩; have n0_ := Aside0.mk (Qai.trans (kk_) hk (.inl rfl)); have n1_ := Aside0.mk (hb); have n2_ := Aside0.mk (hi); clear HK; clear HB; clear HI0; have HK := n0_; have HB := n1_; have HI0 := n2_; clear n0_ n1_ n2_; (try clear hb); (try clear hb2); (try clear hk); (try clear hi)) | ((with_reducible refine Qax (f := 55) rfl ?_); refine QaX (some 14) rfl rfl Try.func55 (by kernel_rfl) rfl #[.pointer (some ⟨g, 0, none⟩), .int .i64 20] rfl (by (try simp only [List.map_toArray, List.map_cons, List.map_nil]); first | done | rfl | (simp only [List.length_drop, List.length_take]; rfl)) ?_; (with_reducible refine (Qab.calls k g s0_0 t102 20 t103 t104 w0 _ ?side1 ?side2 A6.out).mono ?_); (case side1 => repeat (first | (with_reducible first | exact HI0.out | apply Qad.alloc | apply Qad.drewN | apply Qad.drew | apply Qad.set_1) | exact HI0.out)); (case side2 => repeat (first | (with_reducible first | exact HB.out | apply Qal | apply Qar | apply Qav | refine Qaw ?_ (Qad.ge HI0.out)) | exact HB.out)); rintro e w11 ⟨rfl, hi, hb, hk⟩; refine ⟨_, rfl, ?_⟩; have n0_ := Aside0.mk (Qai.trans (kk_) hk (.inl rfl)); have n1_ := Aside0.mk (hb); have n2_ := Aside0.mk (hi); clear HK; clear HB; clear HI0; have HK := n0_; have HB := n1_; have HI0 := n2_; clear n0_ n1_ n2_; (try clear hb); (try clear hb2); (try clear hk); (try clear hi)) | ((with_reducible refine QaH (N := 15) rfl ?_); refine Kd.R_lit (Kd.int .i64) _ 3 ?hg (N := 15) ?hd (xs := ([1, t103] : List Int)) (inner := [.int .i64 1, .int .i64 t103]) (ok := fun _ => True) (okp := fun _ => True) ?hr ?hp (fun _ hk => hk) trivial (Below.refl _ _) (Nat.le_refl _) (by simp) ?_; (case hd => rfl); (case hg => rfl); (case hr => first | (go_simp; done) | (go_simp; rfl)); (case hp => exact (Qa9.one (show Kd.M (Kd.int .i64) _ _ _ 1 [.int .i64 1] from rfl) (Qa9.one (show Kd.M (Kd.int .i64) _ _ _ t103 [.int .i64 t103] from rfl) (Qa9.none _ _)))); intro v106 w12 ho13 hb hg_ hnew_; clear hg_ hnew_; (first | rw [← Ny105.out] at ho13 | (simp only [Int.reduceToNat] at ho13; rw [← Ny105.out] at ho13)); have n0_ := Aside0.mk (Kd.R_lower ho13 (QaC (w := w) (g := g) (row := none) (kk_))); have n1_ := Aside0.mk (Qad.below (ki_) hb); have n2_ := Aside0.mk (Qai.trans (kk_) (Qai.of_below hb g none) (.inl rfl)); have n3_ := Aside0.mk (Qap (bx_) hb); clear HI0; clear HK; clear HB; have HO107 := n0_; have HI0 := n1_; have HK := n2_; have HB := n3_; clear n0_ n1_ n2_ n3_; clear hb ho13; obtain ⟨Ao14, co14, eo14⟩ := Kd.R_slice HO107.out; subst eo14) | ((with_reducible refine Qax (f := 138) rfl ?_); refine QaX (some 16) rfl rfl Try.func138 (by kernel_rfl) rfl #[.slice Ao14 y105.length co14] rfl (by (try simp only [List.map_toArray, List.map_cons, List.map_nil]); first | done | rfl | (simp only [List.length_drop, List.length_take]; rfl)) ?_; (with_reducible refine (Qam.calls k _ _ y105 t108 _ ?side1 ?side2 A7.out).mono ?_); (case side1 => repeat (first | exact (Kd.R_reads' HO107.out).2.2 | (with_reducible refine Kd.C_alloc ?_ _) | (with_reducible refine Kd.C_drewN ?_ _) | (with_reducible refine Kd.C_drew ?_))); (case side2 => exact (Kd.R_reads' HO107.out).2.1); rintro e w15 ⟨v109, rfl, ho0, hb⟩; refine ⟨_, rfl, ?_⟩; have n0_ := Aside0.mk (Kd.R_below (by (refine QaP ?_); exact HO107.out) hb); have n1_ := Aside0.mk (Kd.R_lower ho0 (QaC (w := w) (g := g) (row := none) (kk_))); have n2_ := Aside0.mk (Qad.below (ki_) hb); have n3_ := Aside0.mk (Qai.trans (kk_) (Qai.of_below hb g none) (.inl rfl)); have n4_ := Aside0.mk (Qap (bx_) hb); clear HO107; clear HI0; clear HK; clear HB; have HO107 := n0_; have HO110 := n1_; have HI0 := n2_; have HK := n3_; have HB := n4_; clear n0_ n1_ n2_ n3_ n4_; (try clear hb); (try clear hb2); (try clear hk); (try clear hi); (try clear ho0)) | ((with_reducible refine Qax (f := 139) rfl ?_); refine QaX (some 19) rfl rfl Try.func139 (by kernel_rfl) rfl #[.pointer (some ⟨g, 0, none⟩), .int .i64 a2] rfl (by (try simp only [List.map_toArray, List.map_cons, List.map_nil]); first | done | rfl | (simp only [List.length_drop, List.length_take]; rfl)) ?_; (with_reducible refine (QaV.calls k g s0_0 t104 a2 t111 t112 t113 w0 _ ?side1 ?side2 A8.out).mono ?_); (case side1 => repeat (first | (with_reducible first | exact HI0.out | apply Qad.alloc | apply Qad.drewN | apply Qad.drew | apply Qad.set_1) | exact HI0.out)); (case side2 => repeat (first | (with_reducible first | exact HB.out | apply Qal | apply Qar | apply Qav | refine Qaw ?_ (Qad.ge HI0.out)) | exact HB.out)); rintro e w16 ⟨rfl, hi, hb, hk⟩; refine ⟨_, rfl, ?_⟩; have n0_ := Aside0.mk (Kd.R_mono (Kd.R_keep (Qad.apart (show Qad w0 _ g s0_0 t104 from ki_) (by (refine QaP ?_); exact HO107.out) (by decide)) hk (fun _ h => h.2)) (fun _ h => h.1)); have n1_ := Aside0.mk (Kd.R_mono (Kd.R_keep (Qad.apart (show Qad w0 _ g s0_0 t104 from ki_) (by (refine QaP ?_); exact HO110.out) (by decide)) hk (fun _ h => h.2)) (fun _ h => h.1)); have n2_ := Aside0.mk (Qai.trans (kk_) hk (.inl rfl)); have n3_ := Aside0.mk (hb); have n4_ := Aside0.mk (hi); clear HO107; clear HO110; clear HK; clear HB; clear HI0; have HO107 := n0_; have HO110 := n1_; have HK := n2_; have HB := n3_; have HI0 := n4_; clear n0_ n1_ n2_ n3_ n4_; (try clear hb); (try clear hb2); (try clear hk); (try clear hi)) | ((with_reducible refine QaW (b := .append) (xs := #[.tmp 16, .tmp 20]) rfl ?_); at_builtin; refine Kd.R_append QaB w.heap.size rfl (.tmp 16) (.tmp 20) 32 83 (.agg #[(.int .i64 0), (.int .i64 0)]) 16 rfl Try.underlying32 QbO rfl (by decide) (by omega) v109 t108 (⟨t111, t112⟩ : Qac) [.int .i64 t111, .int .i64 t112] (fun _ => True) (fun _ => False) rfl rfl ?aP (fun _ hk => hk.elim) ?aF ?aO (Below.refl _ _) ?aS ?aL ?_; (case aP => exact Qa0 _ _ _ (⟨t111, t112⟩ : Qac)); (case aF => exact (fun _ _ => trivial)); (case aO => exact (by (refine QaP ?_); exact HO110.out)); (case aS => exact (QaC (w := w) (g := g) (row := none) (kk_))); (case aL => have := LMc9.out; omega); intro v115 w17 ho hb hg hat; rw [← Ny114.out] at ho; have n0_ := Aside0.mk (Qad.grown (ki_) hg (Qad.own_ne HI0.out HO110.out (by decide))); have n1_ := Aside0.mk (Kd.R_over' (by (refine QaP ?_); exact HO107.out) (Kd.R_typed (by (refine QaP ?_); exact HO110.out)) (by decide) hg); have n2_ := Aside0.mk (Qa5 (bx_) HL.out hb); have n3_ := Aside0.mk (Qai.trans (kk_) (Qai.of_grown hg g) (Kd.R_base2 HO110.out)); have n4_ := Aside0.mk (ho); clear HI0; clear HO107; clear HB; clear HK; clear HO110; have HI0 := n0_; have HO107 := n1_; have HB := n2_; have HK := n3_; have HO116 := n4_; clear n0_ n1_ n2_ n3_ n4_; clear ho hb hg hat))
     go_ret
     exact ⟨_, by first | rfl | (simp [Qan, Qao] <;> rfl) | (simp [*, Qan, Qao] <;> rfl), by (refine QaP ?_); exact HO116.out, ki_, bx_, kk_⟩
   · rw [if_neg c9] at H
     exact absurd H (by simp)
 · rw [if_neg c5] at H
   have c5b0 : (t101 == 0) = false := beq_eq_false_iff_ne.mpr c5
   have c5b1 : (t101 != 0) = true := bne_iff_ne.mpr c5
   have HC18 := Aside0.mk H
   clear H
   go_enter Try.func128, Try.ntmps128
   go_upto_if 22 with (first | ((with_reducible refine Qax (f := 55) rfl ?_); refine QaX (some 10) rfl rfl Try.func55 (by kernel_rfl) rfl #[.pointer (some ⟨g, 0, none⟩), .int .i64 10] rfl (by (try simp only [List.map_toArray, List.map_cons, List.map_nil]); first | done | rfl | (simp only [List.length_drop, List.length_take]; rfl)) ?_; (with_reducible refine (Qab.calls k g s0_0 s0_1 10 t101 t102 w0 _ ?side1 ?side2 A4.out).mono ?_); (case side1 => repeat (first | (with_reducible first | exact HI0.out | apply Qad.alloc | apply Qad.drewN | apply Qad.drew | apply Qad.set_1) | exact HI0.out)); (case side2 => repeat (first | (with_reducible first | exact HB.out | apply Qal | apply Qar | apply Qav | refine Qaw ?_ (Qad.ge HI0.out)) | exact HB.out)); rintro e w19 ⟨rfl, hi, hb, hk⟩; refine ⟨_, rfl, ?_⟩; have n0_ := Aside0.mk (Qai.trans (kk_) hk (.inl rfl)); have n1_ := Aside0.mk (hb); have n2_ := Aside0.mk (hi); clear HK; clear HB; clear HI0; have HK := n0_; have HB := n1_; have HI0 := n2_; clear n0_ n1_ n2_; (try clear hb); (try clear hb2); (try clear hk); (try clear hi)))
   (try simp only [Act.put, List.setIfInBounds_toArray, List.set_cons_zero, List.set_cons_succ])
   go_cut [22] (fun v22 wc => ∃ (kq : Nat) (x22_17 : Bool), v22 = .bool x22_17 ∧ Aside0 (Qay.j0 kq l1 a2 t101 x22_17 s0_0 t102 = some (r1, r2)) ∧ Aside0 (kq ≤ k) ∧ Aside0 (Qad w0 wc g s0_0 t102) ∧ Aside0 (Qai w wc g none) ∧ Aside0 (Below w0.heap.size w0 wc))
   case first =>
    have H := HC18.out
    clear HC18
    by_cases c20 : t101 = 1
    · rw [if_pos c20] at H
      have c20b0 : (t101 == 1) = true := beq_iff_eq.mpr c20
      have c20b1 : (t101 != 1) = false := bne_eq_false_iff_eq.mpr c20
      clear c20
      (first | rw [c20b0] | (simp only [Qbb, Qbd]; rw [c20b0]) | skip)
      have H' := Aside0.mk H
      clear H
      go_wp2
      go_meet
      case rel => exact ⟨_, ((t101 == 1)), (by first | rfl | (simp; done) | (simp [*]; done)), H', ⟨by first | omega | exact Nat.le_refl _⟩, ⟨ki_⟩, ⟨kk_⟩, ⟨bx_⟩⟩
    · rw [if_neg c20] at H
      have c20b0 : (t101 == 1) = false := beq_eq_false_iff_ne.mpr c20
      have c20b1 : (t101 != 1) = true := bne_iff_ne.mpr c20
      (first | rw [c20b0] | (simp only [Qbb, Qbd]; rw [c20b0]) | skip)
      by_cases c21 : t101 = 2
      · rw [if_pos c21] at H
        have c21b0 : (t101 == 2) = true := beq_iff_eq.mpr c21
        have c21b1 : (t101 != 2) = false := bne_eq_false_iff_eq.mpr c21
        clear c21
        have H' := Aside0.mk H
        clear H
        go_wp2
        go_meet
        case rel => exact ⟨_, ((t101 == 2)), (by first | rfl | (simp; done) | (simp [*]; done)), H', ⟨by first | omega | exact Nat.le_refl _⟩, ⟨ki_⟩, ⟨kk_⟩, ⟨bx_⟩⟩
      · rw [if_neg c21] at H
        have c21b0 : (t101 == 2) = false := beq_eq_false_iff_ne.mpr c21
        have c21b1 : (t101 != 2) = true := bne_iff_ne.mpr c21
        have H' := Aside0.mk H
        clear H
        go_wp2
        go_meet
        case rel => exact ⟨_, ((t101 == 3)), (by first | rfl | (simp; done) | (simp [*]; done)), H', ⟨by first | omega | exact Nat.le_refl _⟩, ⟨ki_⟩, ⟨kk_⟩, ⟨bx_⟩⟩
   case rest =>
    clear HC18
    try clear c1
    try clear c2
    try clear p2
    try clear c5
    try clear c5b0
    try clear c5b1
    try clear c9
    try clear c12
    try clear c13
    try clear c20
    try clear c20b0
    try clear c20b1
    try clear c21
    try clear c21b0
    try clear c21b1
    obtain ⟨kq, x22_17, rfl, HA, HJ17, HI0, HK, HB⟩ := hcut
    cases kq with
    | zero => exact absurd HA.out (by simp [Qay.j0])
    | succ kj17 =>
      have H := HA.out
      clear HA
      simp only [Qay.j0] at H
      by_cases c22 : x22_17 = true
      · subst c22
        have H1 : ((Qab.f kj17 s0_0 t102 (l1.length : Int)).bind fun bt117 => (if 0 ≤ bt117.1 then (if bt117.1 < (l1.length : Int) then ((QaE.f kj17 s0_0 bt117.2 (rd l1 bt117.1) a2).bind fun bt120 => (if bt120.1.length < 8796093022208 then ((some (bt120.1 ++ [(⟨9, bt117.1⟩ : Qac)] : List (Qac))).bind fun y124 => ((QaV.f kj17 s0_0 bt120.2 a2).bind fun bt127 => (if y124.length < 8796093022208 then (some ((y124 ++ [(⟨bt127.1, bt127.2.1⟩ : Qac)]), bt127.2.2)) else (none)))) else (none))) else (none)) else (none))) = some (r1, r2) := by rw [if_pos rfl] at H; exact H
        clear H
        have H := H1
        clear H1
        replace H := Option.bind_eq_some_iff.mp H
        obtain ⟨⟨t117, t118⟩, A230, H⟩ := H
        replace H : (if 0 ≤ t117 then (if t117 < (l1.length : Int) then ((QaE.f kj17 s0_0 t118 (rd l1 t117) a2).bind fun bt120 => (if bt120.1.length < 8796093022208 then ((some (bt120.1 ++ [(⟨9, t117⟩ : Qac)] : List (Qac))).bind fun y124 => ((QaV.f kj17 s0_0 bt120.2 a2).bind fun bt127 => (if y124.length < 8796093022208 then (some ((y124 ++ [(⟨bt127.1, bt127.2.1⟩ : Qac)]), bt127.2.2)) else (none)))) else (none))) else (none)) else (none)) = some (r1, r2) := H
        have A23 := Aside0.mk A230
        clear A230
        by_cases c24 : 0 ≤ t117
        · rw [if_pos c24] at H
          have c24b0 : decide (0 ≤ t117) = true := decide_eq_true c24
          clear c24
          by_cases c25 : t117 < (l1.length : Int)
          · rw [if_pos c25] at H
            have c25b0 : decide (t117 < (l1.length : Int)) = true := decide_eq_true c25
            clear c25
            replace H := Option.bind_eq_some_iff.mp H
            obtain ⟨⟨t120, t123⟩, A260, H⟩ := H
            replace H : (if t120.length < 8796093022208 then ((some (t120 ++ [(⟨9, t117⟩ : Qac)] : List (Qac))).bind fun y124 => ((QaV.f kj17 s0_0 t123 a2).bind fun bt127 => (if y124.length < 8796093022208 then (some ((y124 ++ [(⟨bt127.1, bt127.2.1⟩ : Qac)]), bt127.2.2)) else (none)))) else (none)) = some (r1, r2) := H
            have A26 := Aside0.mk A260
            clear A260
            by_cases c27 : t120.length < 8796093022208
            · rw [if_pos c27] at H
              have LMc27 := Aside0.mk c27
              clear c27
              obtain ⟨y124, hy124⟩ : ∃ y_ : List (Qac), y_ = (t120 ++ [(⟨9, t117⟩ : Qac)]) := ⟨_, rfl⟩
              replace H : ((QaV.f kj17 s0_0 t123 a2).bind fun bt127 => (if y124.length < 8796093022208 then (some ((y124 ++ [(⟨bt127.1, bt127.2.1⟩ : Qac)]), bt127.2.2)) else (none))) = some (r1, r2) := by first | (rw [hy124]; with_reducible exact H) | (have H2_ := (Option.bind_some _ _).symm.trans H; rw [hy124]; with_reducible exact H2_) | (have H2_ := (Option.bind_some _ _).symm.trans H; with_reducible exact H2_) | with_reducible exact H | (rw [hy124]; exact H) | exact H
              have Ny124 := Aside0.mk hy124
              clear hy124
              replace H := Option.bind_eq_some_iff.mp H
              obtain ⟨⟨t127, t128, t129⟩, A280, H⟩ := H
              replace H : (if y124.length < 8796093022208 then (some ((y124 ++ [(⟨t127, t128⟩ : Qac)]), t129)) else (none)) = some (r1, r2) := H
              have A28 := Aside0.mk A280
              clear A280
              by_cases c29 : y124.length < 8796093022208
              · rw [if_pos c29] at H
                have LMc29 := Aside0.mk c29
                clear c29
                obtain ⟨y130, hy130⟩ : ∃ y_ : List (Qac), y_ = (y124 ++ [(⟨t127, t128⟩ : Qac)]) := ⟨_, rfl⟩
                replace H : (some (y130, t129)) = some (r1, r2) := by first | (rw [hy130]; with_reducible exact H) | (have H2_ := (Option.bind_some _ _).symm.trans H; rw [hy130]; with_reducible exact H2_) | (have H2_ := (Option.bind_some _ _).symm.trans H; with_reducible exact H2_) | with_reducible exact H | (rw [hy130]; exact H) | exact H
                have Ny130 := Aside0.mk hy130
                clear hy130
                simp only [Option.some.injEq, Prod.mk.injEq] at H
                obtain ⟨rfl, rfl⟩ := H
                go_wp2_with (first | ((with_reducible refine Qax (f := 55) rfl ?_); refine QaX (some 29) rfl rfl Try.func55 (by kernel_rfl) rfl #[.pointer (some ⟨g, 0, none⟩), .int .i64 (l1.length : Int)] rfl (by (try simp only [List.map_toArray, List.map_cons, List.map_nil]); first | done | rfl | (simp only [List.length_drop, List.length_take]; rfl)) ?_; (with_reducible refine (Qab.calls kj17 g s0_0 t102 (l1.length : Int) t117 t118 w0 _ ?side1 ?side2 A23.out).mono ?_); (case side1 => repeat (first | (with_reducible first | exact HI0.out | apply Qad.alloc | apply Qad.drewN | apply Qad.drew | apply Qad.set_1) | exact HI0.out)); (case side2 => repeat (first | (with_reducible first | exact HB.out | apply Qal | apply Qar | apply Qav | refine Qaw ?_ (Qad.ge HI0.out)) | exact HB.out)); rintro e w30 ⟨rfl, hi, hb, hk⟩; refine ⟨_, rfl, ?_⟩; have n0_ := Aside0.mk (Qai.trans (kk_) hk (.inl rfl)); have n1_ := Aside0.mk (hb); have n2_ := Aside0.mk (hi); clear HK; clear HB; clear HI0; have HK := n0_; have HB := n1_; have HI0 := n2_; clear n0_ n1_ n2_; (try clear hb); (try clear hb2); (try clear hk); (try clear hi); have p119 : 0 ≤ (t117 : Int) := of_decide_eq_true (by first | (with_reducible assumption) | assumption); have q119 : t117 < (l1.length : Int) := of_decide_eq_true (by first | (with_reducible assumption) | assumption); obtain ⟨ad119, e119, hx119_0⟩ := Kd.at_int HR1.out t117 p119 q119; cases e119; replace hx119_0 := Qa6 HK.out hx119_0 (by first | (rw [QaL]; exact hf1 _ rfl (by omega)) | exact hf1 _ rfl (by omega) | exact hf1 ad119 rfl (by omega)); replace p119 := eq_true p119; replace q119 := eq_true q119) | ((with_reducible refine Qax (f := 140) rfl ?_); refine QaX (some 36) rfl rfl Try.func140 (by kernel_rfl) rfl #[.pointer (some ⟨g, 0, none⟩), .int .i64 (rd l1 t117), .int .i64 a2] rfl (by (try simp only [List.map_toArray, List.map_cons, List.map_nil]); first | done | rfl | (simp only [List.length_drop, List.length_take]; rfl)) ?_; (with_reducible refine (QaE.calls kj17 g s0_0 t118 (rd l1 t117) a2 t120 t123 w0 _ ?side1 ?side2 A26.out).mono ?_); (case side1 => repeat (first | (with_reducible first | exact HI0.out | apply Qad.alloc | apply Qad.drewN | apply Qad.drew | apply Qad.set_1) | exact HI0.out)); (case side2 => repeat (first | (with_reducible first | exact HB.out | apply Qal | apply Qar | apply Qav | refine Qaw ?_ (Qad.ge HI0.out)) | exact HB.out)); rintro e w31 ⟨v121, rfl, ho0, hi, hb, hk⟩; refine ⟨_, rfl, ?_⟩; have n0_ := Aside0.mk (Kd.R_lower ho0 (QaC (w := w) (g := g) (row := none) (kk_))); have n1_ := Aside0.mk (Qai.trans (kk_) hk (.inl rfl)); have n2_ := Aside0.mk (hb); have n3_ := Aside0.mk (hi); clear HK; clear HB; clear HI0; have HO122 := n0_; have HK := n1_; have HB := n2_; have HI0 := n3_; clear n0_ n1_ n2_ n3_; (try clear hb); (try clear hb2); (try clear hk); (try clear hi); (try clear ho0)) | ((with_reducible refine QaW (b := .append) (xs := #[.tmp 36, .tmp 39]) rfl ?_); at_builtin; refine Kd.R_append QaB w.heap.size rfl (.tmp 36) (.tmp 39) 32 83 (.agg #[(.int .i64 0), (.int .i64 0)]) 16 rfl Try.underlying32 QbO rfl (by decide) (by omega) v121 t120 (⟨9, t117⟩ : Qac) [.int .i64 9, .int .i64 t117] (fun _ => True) (fun _ => False) rfl rfl ?aP (fun _ hk => hk.elim) ?aF ?aO (Below.refl _ _) ?aS ?aL ?_; (case aP => exact Qa0 _ _ _ (⟨9, t117⟩ : Qac)); (case aF => exact (fun _ _ => trivial)); (case aO => exact (by (refine QaP ?_); exact HO122.out)); (case aS => exact (QaC (w := w) (g := g) (row := none) (kk_))); (case aL => have := LMc27.out; omega); intro v125 w32 ho hb hg hat; rw [← Ny124.out] at ho; have n0_ := Aside0.mk (Qad.grown (ki_) hg (Qad.own_ne HI0.out HO122.out (by decide))); have n1_ := Aside0.mk (Qa5 (bx_) HL.out hb); have n2_ := Aside0.mk (Qai.trans (kk_) (Qai.of_grown hg g) (Kd.R_base2 HO122.out)); have n3_ := Aside0.mk (ho); clear HI0; clear HB; clear HK; clear HO122; have HI0 := n0_; have HB := n1_; have HK := n2_; have HO126 := n3_; clear n0_ n1_ n2_ n3_; clear ho hb hg hat) | ((with_reducible refine Qax (f := 139) rfl ?_); refine QaX (some 44) rfl rfl Try.func139 (by kernel_rfl) rfl #[.pointer (some ⟨g, 0, none⟩), .int .i64 a2] rfl (by (try simp only [List.map_toArray, List.map_cons, List.map_nil]); first | done | rfl | (simp only [List.length_drop, List.length_take]; rfl)) ?_; (with_reducible refine (QaV.calls kj17 g s0_0 t123 a2 t127 t128 t129 w0 _ ?side1 ?side2 A28.out).mono ?_); (case side1 => repeat (first | (with_reducible first | exact HI0.out | apply Qad.alloc | apply Qad.drewN | apply Qad.drew | apply Qad.set_1) | exact HI0.out)); (case side2 => repeat (first | (with_reducible first | exact HB.out | apply Qal | apply Qar | apply Qav | refine Qaw ?_ (Qad.ge HI0.out)) | exact HB.out)); rintro e w33 ⟨rfl, hi, hb, hk⟩; refine ⟨_, rfl, ?_⟩; have n0_ := Aside0.mk (Kd.R_mono (Kd.R_keep (Qad.apart (show Qad w0 _ g s0_0 t123 from ki_) (by (refine QaP ?_); exact HO126.out) (by decide)) hk (fun _ h => h.2)) (fun _ h => h.1)); have n1_ := Aside0.mk (Qai.trans (kk_) hk (.inl rfl)); have n2_ := Aside0.mk (hb); have n3_ := Aside0.mk (hi); clear HO126; clear HK; clear HB; clear HI0; have HO126 := n0_; have HK := n1_; have HB := n2_; have HI0 := n3_; clear n0_ n1_ n2_ n3_; (try clear hb); (try clear hb2); (try clear hk); (try clear hi)) | ((with_reducible refine QaW (b := .append) (xs := #[.tmp 41, .tmp 45]) rfl ?_); at_builtin; refine Kd.R_append QaB w.heap.size rfl (.tmp 41) (.tmp 45) 32 83 (.agg #[(.int .i64 0), (.int .i64 0)]) 16 rfl Try.underlying32 QbO rfl (by decide) (by omega) v125 y124 (⟨t127, t128⟩ : Qac) [.int .i64 t127, .int .i64 t128] (fun _ => True) (fun _ => False) rfl rfl ?aP (fun _ hk => hk.elim) ?aF ?aO (Below.refl _ _) ?aS ?aL ?_; (case aP => exact Qa0 _ _ _ (⟨t127, t128⟩ : Qac)); (case aF => exact (fun _ _ => trivial)); (case aO => exact (by (refine QaP ?_); exact HO126.out)); (case aS => exact (QaC (w := w) (g := g) (row := none) (kk_))); (case aL => have := LMc29.out; omega); intro v131 w34 ho hb hg hat; rw [← Ny130.out] at ho; have n0_ := Aside0.mk (Qad.grown (ki_) hg (Qad.own_ne HI0.out HO126.out (by decide))); have n1_ := Aside0.mk (Qa5 (bx_) HL.out hb); have n2_ := Aside0.mk (Qai.trans (kk_) (Qai.of_grown hg g) (Kd.R_base2 HO126.out)); have n3_ := Aside0.mk (ho); clear HI0; clear HB; clear HK; clear HO126; have HI0 := n0_; have HB := n1_; have HK := n2_; have HO132 := n3_; clear n0_ n1_ n2_ n3_; clear ho hb hg hat))
                go_ret
                exact ⟨_, by first | rfl | (simp [Qan, Qao] <;> rfl) | (simp [*, Qan, Qao] <;> rfl), by (refine QaP ?_); exact HO132.out, ki_, bx_, kk_⟩
              · rw [if_neg c29] at H
                exact absurd H (by simp)
            · rw [if_neg c27] at H
              exact absurd H (by simp)
          · rw [if_neg c25] at H
            exact absurd H (by simp)
        · rw [if_neg c24] at H
          exact absurd H (by simp)
      · replace c22 := Bool.eq_false_iff.mpr c22
        subst c22
        have H1 : (if t101 = 4 then (Qay.j1 kj17 a2 t101 (t101 == 4) s0_0 t102) else (Qay.j1 kj17 a2 t101 (t101 == 5) s0_0 t102)) = some (r1, r2) := by rw [if_neg (show ¬ (false = true) by decide)] at H; exact H
        clear H
        have H := H1
        clear H1
        have HC35 := Aside0.mk H
        clear H
        go_upto_if 47 with (fail)
        go_cut [47] (fun v47 wc => ∃ (kq : Nat) (x47_34 : Bool), v47 = .bool x47_34 ∧ Aside0 (Qay.j1 kq a2 t101 x47_34 s0_0 t102 = some (r1, r2)) ∧ Aside0 (kq ≤ kj17) ∧ Aside0 (Qad w0 wc g s0_0 t102) ∧ Aside0 (Qai w wc g none) ∧ Aside0 (Below w0.heap.size w0 wc))
        case first =>
         have H := HC35.out
         clear HC35
         by_cases c36 : t101 = 4
         · rw [if_pos c36] at H
           have c36b0 : (t101 == 4) = true := beq_iff_eq.mpr c36
           have c36b1 : (t101 != 4) = false := bne_eq_false_iff_eq.mpr c36
           clear c36
           (first | rw [c36b0] | (simp only [Qbb, Qbd]; rw [c36b0]) | skip)
           have H' := Aside0.mk H
           clear H
           go_wp2
           go_meet
           case rel => exact ⟨_, ((t101 == 4)), (by first | rfl | (simp; done) | (simp [*]; done)), H', ⟨by have := HJ17.out; first | omega | exact Nat.le_refl _⟩, ⟨ki_⟩, ⟨kk_⟩, ⟨bx_⟩⟩
         · rw [if_neg c36] at H
           have c36b0 : (t101 == 4) = false := beq_eq_false_iff_ne.mpr c36
           have c36b1 : (t101 != 4) = true := bne_iff_ne.mpr c36
           (first | rw [c36b0] | (simp only [Qbb, Qbd]; rw [c36b0]) | skip)
           have H' := Aside0.mk H
           clear H
           go_wp2
           go_meet
           case rel => exact ⟨_, ((t101 == 5)), (by first | rfl | (simp; done) | (simp [*]; done)), H', ⟨by have := HJ17.out; first | omega | exact Nat.le_refl _⟩, ⟨ki_⟩, ⟨kk_⟩, ⟨bx_⟩⟩
        case rest =>
         clear HC35
         try clear c1
         try clear p1
         try clear q1
         try clear hx1
         try clear c2
         try clear p2
         try clear c3
         try clear c5
         try clear c5b0
         try clear c5b1
         try clear c9
         try clear p11
         try clear q11
         try clear hx11
         try clear c12
         try clear c13
         try clear c14
         try clear c20
         try clear c20b0
         try clear c20b1
         try clear c21
         try clear c21b0
         try clear c21b1
         try clear c22
         try clear c24
         try clear c24b0
         try clear c25
         try clear c25b0
         try clear c27
         try clear c29
         try clear c36
         try clear c36b0
         try clear c36b1
         try clear hx119_0
         try clear p119
         try clear p2
         try clear q119
         obtain ⟨kq, x47_34, rfl, HA, HJ34, HI0, HK, HB⟩ := hcut
         cases kq with
         | zero => exact absurd HA.out (by simp [Qay.j1])
         | succ kj34 =>
           have H := HA.out
           clear HA
           simp only [Qay.j1] at H
           by_cases c37 : x47_34 = true
           · subst c37
             have H1 : ((Qau.f kj34 s0_0 t102 a2).bind fun bt133 => ((QaV.f kj34 s0_0 bt133.2 a2).bind fun bt137 => (if bt133.1.length < 8796093022208 then (some ((bt133.1 ++ [(⟨bt137.1, bt137.2.1⟩ : Qac)]), bt137.2.2)) else (none)))) = some (r1, r2) := by rw [if_pos rfl] at H; exact H
             clear H
             have H := H1
             clear H1
             replace H := Option.bind_eq_some_iff.mp H
             obtain ⟨⟨t133, t136⟩, A380, H⟩ := H
             replace H : ((QaV.f kj34 s0_0 t136 a2).bind fun bt137 => (if t133.length < 8796093022208 then (some ((t133 ++ [(⟨bt137.1, bt137.2.1⟩ : Qac)]), bt137.2.2)) else (none))) = some (r1, r2) := H
             have A38 := Aside0.mk A380
             clear A380
             replace H := Option.bind_eq_some_iff.mp H
             obtain ⟨⟨t137, t138, t139⟩, A390, H⟩ := H
             replace H : (if t133.length < 8796093022208 then (some ((t133 ++ [(⟨t137, t138⟩ : Qac)]), t139)) else (none)) = some (r1, r2) := H
             have A39 := Aside0.mk A390
             clear A390
             by_cases c40 : t133.length < 8796093022208
             · rw [if_pos c40] at H
               have LMc40 := Aside0.mk c40
               clear c40
               obtain ⟨y140, hy140⟩ : ∃ y_ : List (Qac), y_ = (t133 ++ [(⟨t137, t138⟩ : Qac)]) := ⟨_, rfl⟩
               replace H : (some (y140, t139)) = some (r1, r2) := by first | (rw [hy140]; with_reducible exact H) | (have H2_ := (Option.bind_some _ _).symm.trans H; rw [hy140]; with_reducible exact H2_) | (have H2_ := (Option.bind_some _ _).symm.trans H; with_reducible exact H2_) | with_reducible exact H | (rw [hy140]; exact H) | exact H
               have Ny140 := Aside0.mk hy140
               clear hy140
               simp only [Option.some.injEq, Prod.mk.injEq] at H
               obtain ⟨rfl, rfl⟩ := H
               go_wp2_with (first | ((with_reducible refine Qax (f := 141) rfl ?_); refine QaX (some 52) rfl rfl Try.func141 (by kernel_rfl) rfl #[.pointer (some ⟨g, 0, none⟩), .int .i64 a2] rfl (by (try simp only [List.map_toArray, List.map_cons, List.map_nil]); first | done | rfl | (simp only [List.length_drop, List.length_take]; rfl)) ?_; (with_reducible refine (Qau.calls kj34 g s0_0 t102 a2 t133 t136 w0 _ ?side1 ?side2 A38.out).mono ?_); (case side1 => repeat (first | (with_reducible first | exact HI0.out | apply Qad.alloc | apply Qad.drewN | apply Qad.drew | apply Qad.set_1) | exact HI0.out)); (case side2 => repeat (first | (with_reducible first | exact HB.out | apply Qal | apply Qar | apply Qav | refine Qaw ?_ (Qad.ge HI0.out)) | exact HB.out)); rintro e w41 ⟨v134, rfl, ho0, hi, hb, hk⟩; refine ⟨_, rfl, ?_⟩; have n0_ := Aside0.mk (Kd.R_lower ho0 (QaC (w := w) (g := g) (row := none) (kk_))); have n1_ := Aside0.mk (Qai.trans (kk_) hk (.inl rfl)); have n2_ := Aside0.mk (hb); have n3_ := Aside0.mk (hi); clear HK; clear HB; clear HI0; have HO135 := n0_; have HK := n1_; have HB := n2_; have HI0 := n3_; clear n0_ n1_ n2_ n3_; (try clear hb); (try clear hb2); (try clear hk); (try clear hi); (try clear ho0)) | ((with_reducible refine Qax (f := 139) rfl ?_); refine QaX (some 55) rfl rfl Try.func139 (by kernel_rfl) rfl #[.pointer (some ⟨g, 0, none⟩), .int .i64 a2] rfl (by (try simp only [List.map_toArray, List.map_cons, List.map_nil]); first | done | rfl | (simp only [List.length_drop, List.length_take]; rfl)) ?_; (with_reducible refine (QaV.calls kj34 g s0_0 t136 a2 t137 t138 t139 w0 _ ?side1 ?side2 A39.out).mono ?_); (case side1 => repeat (first | (with_reducible first | exact HI0.out | apply Qad.alloc | apply Qad.drewN | apply Qad.drew | apply Qad.set_1) | exact HI0.out)); (case side2 => repeat (first | (with_reducible first | exact HB.out | apply Qal | apply Qar | apply Qav | refine Qaw ?_ (Qad.ge HI0.out)) | exact HB.out)); rintro e w42 ⟨rfl, hi, hb, hk⟩; refine ⟨_, rfl, ?_⟩; have n0_ := Aside0.mk (Kd.R_mono (Kd.R_keep (Qad.apart (show Qad w0 _ g s0_0 t136 from ki_) (by (refine QaP ?_); exact HO135.out) (by decide)) hk (fun _ h => h.2)) (fun _ h => h.1)); have n1_ := Aside0.mk (Qai.trans (kk_) hk (.inl rfl)); have n2_ := Aside0.mk (hb); have n3_ := Aside0.mk (hi); clear HO135; clear HK; clear HB; clear HI0; have HO135 := n0_; have HK := n1_; have HB := n2_; have HI0 := n3_; clear n0_ n1_ n2_ n3_; (try clear hb); (try clear hb2); (try clear hk); (try clear hi)) | ((with_reducible refine QaW (b := .append) (xs := #[.tmp 52, .tmp 56]) rfl ?_); at_builtin; refine Kd.R_append QaB w.heap.size rfl (.tmp 52) (.tmp 56) 32 83 (.agg #[(.int .i64 0), (.int .i64 0)]) 16 rfl Try.underlying32 QbO rfl (by decide) (by omega) v134 t133 (⟨t137, t138⟩ : Qac) [.int .i64 t137, .int .i64 t138] (fun _ => True) (fun _ => False) rfl rfl ?aP (fun _ hk => hk.elim) ?aF ?aO (Below.refl _ _) ?aS ?aL ?_; (case aP => exact Qa0 _ _ _ (⟨t137, t138⟩ : Qac)); (case aF => exact (fun _ _ => trivial)); (case aO => exact (by (refine QaP ?_); exact HO135.out)); (case aS => exact (QaC (w := w) (g := g) (row := none) (kk_))); (case aL => have := LMc40.out; omega); intro v141 w43 ho hb hg hat; rw [← Ny140.out] at ho; have n0_ := Aside0.mk (Qad.grown (ki_) hg (Qad.own_ne HI0.out HO135.out (by decide))); have n1_ := Aside0.mk (Qa5 (bx_) HL.out hb); have n2_ := Aside0.mk (Qai.trans (kk_) (Qai.of_grown hg g) (Kd.R_base2 HO135.out)); have n3_ := Aside0.mk (ho); clear HI0; clear HB; clear HK; clear HO135; have HI0 := n0_; have HB := n1_; have HK := n2_; have HO142 := n3_; clear n0_ n1_ n2_ n3_; clear ho hb hg hat))
               go_ret
               exact ⟨_, by first | rfl | (simp [Qan, Qao] <;> rfl) | (simp [*, Qan, Qao] <;> rfl), by (refine QaP ?_); exact HO142.out, ki_, bx_, kk_⟩
             · rw [if_neg c40] at H
               exact absurd H (by simp)
           · replace c37 := Bool.eq_false_iff.mpr c37
             subst c37
             have H1 : (if t101 = 6 then ((Qab.f kj34 s0_0 t102 a2).bind fun bt143 => ((Qam.f kj34 (([11, 0, 3, bt143.1] : List Int))).bind fun t148 => (some (t148, bt143.2)))) else (if t101 = 7 then ((Qab.f kj34 s0_0 t102 2).bind fun bt151 => (if bt151.1 = 0 then ((Qab.f kj34 s0_0 bt151.2 9).bind fun bt153 => ((Qab.f kj34 s0_0 bt153.2 4).bind fun bt155 => ((Qam.f kj34 (([11, 0, 12, 0, 1, bt153.1, 14, bt155.1] : List Int))).bind fun t160 => (some (t160, bt155.2))))) else ((Qab.f kj34 s0_0 bt151.2 a2).bind fun bt163 => ((Qab.f kj34 s0_0 bt163.2 a2).bind fun bt165 => ((Qam.f kj34 (([2, bt163.1, 2, bt165.1, 6, 0, 16, 0] : List Int))).bind fun t170 => (some (t170, bt165.2))))))) else (if t101 = 8 then ((Qab.f kj34 s0_0 t102 a2).bind fun bt173 => ((Qab.f kj34 s0_0 bt173.2 9).bind fun bt175 => ((Qam.f kj34 (([2, bt173.1, 1, bt175.1, 15, 0] : List Int))).bind fun t180 => (if t180.length < 8796093022208 then (some ((t180 ++ [(⟨4, 0⟩ : Qac)]), bt175.2)) else (none))))) else ((Qab.f kj34 s0_0 t102 50).bind fun bt186 => ((Qab.f kj34 s0_0 bt186.2 50).bind fun bt188 => ((Qam.f kj34 (([1, bt186.1, 1, bt188.1, 5, 0, 16, 0] : List Int))).bind fun t193 => (some (t193, bt188.2)))))))) = some (r1, r2) := by rw [if_neg (show ¬ (false = true) by decide)] at H; exact H
             clear H
             have H := H1
             clear H1
             by_cases c44 : t101 = 6
             · rw [if_pos c44] at H
               have c44b0 : (t101 == 6) = true := beq_iff_eq.mpr c44
               have c44b1 : (t101 != 6) = false := bne_eq_false_iff_eq.mpr c44
               clear c44
               replace H := Option.bind_eq_some_iff.mp H
               obtain ⟨⟨t143, t144⟩, A450, H⟩ := H
               replace H : ((Qam.f kj34 (([11, 0, 3, t143] : List Int))).bind fun t148 => (some (t148, t144))) = some (r1, r2) := H
               have A45 := Aside0.mk A450
               clear A450
               obtain ⟨y145, hy145⟩ : ∃ y_ : List Int, y_ = (([11, 0, 3, t143] : List Int)) := ⟨_, rfl⟩
               replace H : ((Qam.f kj34 y145).bind fun t148 => (some (t148, t144))) = some (r1, r2) := by first | (rw [hy145]; with_reducible exact H) | (have H2_ := (Option.bind_some _ _).symm.trans H; rw [hy145]; with_reducible exact H2_) | (have H2_ := (Option.bind_some _ _).symm.trans H; with_reducible exact H2_) | with_reducible exact H | (rw [hy145]; exact H) | exact H
               have Ny145 := Aside0.mk hy145
               clear hy145
               replace H := Option.bind_eq_some_iff.mp H
               obtain ⟨t148, A460, H⟩ := H
               replace H : (some (t148, t144)) = some (r1, r2) := H
               have A46 := Aside0.mk A460
               clear A460
               simp only [Option.some.injEq, Prod.mk.injEq] at H
               obtain ⟨rfl, rfl⟩ := H
               go_wp2_with (first | ((with_reducible refine Qax (f := 55) rfl ?_); refine QaX (some 62) rfl rfl Try.func55 (by kernel_rfl) rfl #[.pointer (some ⟨g, 0, none⟩), .int .i64 a2] rfl (by (try simp only [List.map_toArray, List.map_cons, List.map_nil]); first | done | rfl | (simp only [List.length_drop, List.length_take]; rfl)) ?_; (with_reducible refine (Qab.calls kj34 g s0_0 t102 a2 t143 t144 w0 _ ?side1 ?side2 A45.out).mono ?_); (case side1 => repeat (first | (with_reducible first | exact HI0.out | apply Qad.alloc | apply Qad.drewN | apply Qad.drew | apply Qad.set_1) | exact HI0.out)); (case side2 => repeat (first | (with_reducible first | exact HB.out | apply Qal | apply Qar | apply Qav | refine Qaw ?_ (Qad.ge HI0.out)) | exact HB.out)); rintro e w47 ⟨rfl, hi, hb, hk⟩; refine ⟨_, rfl, ?_⟩; have n0_ := Aside0.mk (Qai.trans (kk_) hk (.inl rfl)); have n1_ := Aside0.mk (hb); have n2_ := Aside0.mk (hi); clear HK; clear HB; clear HI0; have HK := n0_; have HB := n1_; have HI0 := n2_; clear n0_ n1_ n2_; (try clear hb); (try clear hb2); (try clear hk); (try clear hi)) | ((with_reducible refine QaH (N := 63) rfl ?_); refine Kd.R_lit (Kd.int .i64) _ 3 ?hg (N := 63) ?hd (xs := ([11, 0, 3, t143] : List Int)) (inner := [.int .i64 11, .int .i64 0, .int .i64 3, .int .i64 t143]) (ok := fun _ => True) (okp := fun _ => True) ?hr ?hp (fun _ hk => hk) trivial (Below.refl _ _) (Nat.le_refl _) (by simp) ?_; (case hd => rfl); (case hg => rfl); (case hr => first | (go_simp; done) | (go_simp; rfl)); (case hp => exact (Qa9.one (show Kd.M (Kd.int .i64) _ _ _ 11 [.int .i64 11] from rfl) (Qa9.one (show Kd.M (Kd.int .i64) _ _ _ 0 [.int .i64 0] from rfl) (Qa9.one (show Kd.M (Kd.int .i64) _ _ _ 3 [.int .i64 3] from rfl) (Qa9.one (show Kd.M (Kd.int .i64) _ _ _ t143 [.int .i64 t143] from rfl) (Qa9.none _ _)))))); intro v146 w48 ho49 hb hg_ hnew_; clear hg_ hnew_; (first | rw [← Ny145.out] at ho49 | (simp only [Int.reduceToNat] at ho49; rw [← Ny145.out] at ho49)); have n0_ := Aside0.mk (Kd.R_lower ho49 (QaC (w := w) (g := g) (row := none) (kk_))); have n1_ := Aside0.mk (Qad.below (ki_) hb); have n2_ := Aside0.mk (Qai.trans (kk_) (Qai.of_below hb g none) (.inl rfl)); have n3_ := Aside0.mk (Qap (bx_) hb); clear HI0; clear HK; clear HB; have HO147 := n0_; have HI0 := n1_; have HK := n2_; have HB := n3_; clear n0_ n1_ n2_ n3_; clear hb ho49; obtain ⟨Ao50, co50, eo50⟩ := Kd.R_slice HO147.out; subst eo50) | ((with_reducible refine Qax (f := 138) rfl ?_); refine QaX (some 64) rfl rfl Try.func138 (by kernel_rfl) rfl #[.slice Ao50 y145.length co50] rfl (by (try simp only [List.map_toArray, List.map_cons, List.map_nil]); first | done | rfl | (simp only [List.length_drop, List.length_take]; rfl)) ?_; (with_reducible refine (Qam.calls kj34 _ _ y145 t148 _ ?side1 ?side2 A46.out).mono ?_); (case side1 => repeat (first | exact (Kd.R_reads' HO147.out).2.2 | (with_reducible refine Kd.C_alloc ?_ _) | (with_reducible refine Kd.C_drewN ?_ _) | (with_reducible refine Kd.C_drew ?_))); (case side2 => exact (Kd.R_reads' HO147.out).2.1); rintro e w51 ⟨v149, rfl, ho0, hb⟩; refine ⟨_, rfl, ?_⟩; have n0_ := Aside0.mk (Kd.R_below (by (refine QaP ?_); exact HO147.out) hb); have n1_ := Aside0.mk (Kd.R_lower ho0 (QaC (w := w) (g := g) (row := none) (kk_))); have n2_ := Aside0.mk (Qad.below (ki_) hb); have n3_ := Aside0.mk (Qai.trans (kk_) (Qai.of_below hb g none) (.inl rfl)); have n4_ := Aside0.mk (Qap (bx_) hb); clear HO147; clear HI0; clear HK; clear HB; have HO147 := n0_; have HO150 := n1_; have HI0 := n2_; have HK := n3_; have HB := n4_; clear n0_ n1_ n2_ n3_ n4_; (try clear hb); (try clear hb2); (try clear hk); (try clear hi); (try clear ho0)))
               go_ret
               exact ⟨_, by first | rfl | (simp [Qan, Qao] <;> rfl) | (simp [*, Qan, Qao] <;> rfl), by (refine QaP ?_); exact HO150.out, ki_, bx_, kk_⟩
             · rw [if_neg c44] at H
               have c44b0 : (t101 == 6) = false := beq_eq_false_iff_ne.mpr c44
               have c44b1 : (t101 != 6) = true := bne_iff_ne.mpr c44
               by_cases c52 : t101 = 7
               · rw [if_pos c52] at H
                 have c52b0 : (t101 == 7) = true := beq_iff_eq.mpr c52
                 have c52b1 : (t101 != 7) = false := bne_eq_false_iff_eq.mpr c52
                 clear c52
                 replace H := Option.bind_eq_some_iff.mp H
                 obtain ⟨⟨t151, t152⟩, A530, H⟩ := H
                 replace H : (if t151 = 0 then ((Qab.f kj34 s0_0 t152 9).bind fun bt153 => ((Qab.f kj34 s0_0 bt153.2 4).bind fun bt155 => ((Qam.f kj34 (([11, 0, 12, 0, 1, bt153.1, 14, bt155.1] : List Int))).bind fun t160 => (some (t160, bt155.2))))) else ((Qab.f kj34 s0_0 t152 a2).bind fun bt163 => ((Qab.f kj34 s0_0 bt163.2 a2).bind fun bt165 => ((Qam.f kj34 (([2, bt163.1, 2, bt165.1, 6, 0, 16, 0] : List Int))).bind fun t170 => (some (t170, bt165.2)))))) = some (r1, r2) := H
                 have A53 := Aside0.mk A530
                 clear A530
                 by_cases c54 : t151 = 0
                 · rw [if_pos c54] at H
                   have c54b0 : (t151 == 0) = true := beq_iff_eq.mpr c54
                   have c54b1 : (t151 != 0) = false := bne_eq_false_iff_eq.mpr c54
                   clear c54
                   replace H := Option.bind_eq_some_iff.mp H
                   obtain ⟨⟨t153, t154⟩, A550, H⟩ := H
                   replace H : ((Qab.f kj34 s0_0 t154 4).bind fun bt155 => ((Qam.f kj34 (([11, 0, 12, 0, 1, t153, 14, bt155.1] : List Int))).bind fun t160 => (some (t160, bt155.2)))) = some (r1, r2) := H
                   have A55 := Aside0.mk A550
                   clear A550
                   replace H := Option.bind_eq_some_iff.mp H
                   obtain ⟨⟨t155, t156⟩, A560, H⟩ := H
                   replace H : ((Qam.f kj34 (([11, 0, 12, 0, 1, t153, 14, t155] : List Int))).bind fun t160 => (some (t160, t156))) = some (r1, r2) := H
                   have A56 := Aside0.mk A560
                   clear A560
                   obtain ⟨y157, hy157⟩ : ∃ y_ : List Int, y_ = (([11, 0, 12, 0, 1, t153, 14, t155] : List Int)) := ⟨_, rfl⟩
                   replace H : ((Qam.f kj34 y157).bind fun t160 => (some (t160, t156))) = some (r1, r2) := by first | (rw [hy157]; with_reducible exact H) | (have H2_ := (Option.bind_some _ _).symm.trans H; rw [hy157]; with_reducible exact H2_) | (have H2_ := (Option.bind_some _ _).symm.trans H; with_reducible exact H2_) | with_reducible exact H | (rw [hy157]; exact H) | exact H
                   have Ny157 := Aside0.mk hy157
                   clear hy157
                   replace H := Option.bind_eq_some_iff.mp H
                   obtain ⟨t160, A570, H⟩ := H
                   replace H : (some (t160, t156)) = some (r1, r2) := H
                   have A57 := Aside0.mk A570
                   clear A570
                   simp only [Option.some.injEq, Prod.mk.injEq] at H
                   obtain ⟨rfl, rfl⟩ := H
                   go_wp2_with (first | ((with_reducible refine Qax (f := 55) rfl ?_); refine QaX (some 68) rfl rfl Try.func55 (by kernel_rfl) rfl #[.pointer (some ⟨g, 0, none⟩), .int .i64 2] rfl (by (try simp only [List.map_toArray, List.map_cons, List.map_nil]); first | done | rfl | (simp only [List.length_drop, List.length_take]; rfl)) ?_; (with_reducible refine (Qab.calls kj34 g s0_0 t102 2 t151 t152 w0 _ ?side1 ?side2 A53.out).mono ?_); (case side1 => repeat (first | (with_reducible first | exact HI0.out | apply Qad.alloc | apply Qad.drewN | apply Qad.drew | apply Qad.set_1) | exact HI0.out)); (case side2 => repeat (first | (with_reducible first | exact HB.out | apply Qal | apply Qar | apply Qav | refine Qaw ?_ (Qad.ge HI0.out)) | exact HB.out)); rintro e w58 ⟨rfl, hi, hb, hk⟩; refine ⟨_, rfl, ?_⟩; have n0_ := Aside0.mk (Qai.trans (kk_) hk (.inl rfl)); have n1_ := Aside0.mk (hb); have n2_ := Aside0.mk (hi); clear HK; clear HB; clear HI0; have HK := n0_; have HB := n1_; have HI0 := n2_; clear n0_ n1_ n2_; (try clear hb); (try clear hb2); (try clear hk); (try clear hi)) | ((with_reducible refine Qax (f := 55) rfl ?_); refine QaX (some 71) rfl rfl Try.func55 (by kernel_rfl) rfl #[.pointer (some ⟨g, 0, none⟩), .int .i64 9] rfl (by (try simp only [List.map_toArray, List.map_cons, List.map_nil]); first | done | rfl | (simp only [List.length_drop, List.length_take]; rfl)) ?_; (with_reducible refine (Qab.calls kj34 g s0_0 t152 9 t153 t154 w0 _ ?side1 ?side2 A55.out).mono ?_); (case side1 => repeat (first | (with_reducible first | exact HI0.out | apply Qad.alloc | apply Qad.drewN | apply Qad.drew | apply Qad.set_1) | exact HI0.out)); (case side2 => repeat (first | (with_reducible first | exact HB.out | apply Qal | apply Qar | apply Qav | refine Qaw ?_ (Qad.ge HI0.out)) | exact HB.out)); rintro e w59 ⟨rfl, hi, hb, hk⟩; refine ⟨_, rfl, ?_⟩; have n0_ := Aside0.mk (Qai.trans (kk_) hk (.inl rfl)); have n1_ := Aside0.mk (hb); have n2_ := Aside0.mk (hi); clear HK; clear HB; clear HI0; have HK := n0_; have HB := n1_; have HI0 := n2_; clear n0_ n1_ n2_; (try clear hb); (try clear hb2); (try clear hk); (try clear hi)) | ((with_reducible refine Qax (f := 55) rfl ?_); refine QaX (some 73) rfl rfl Try.func55 (by kernel_rfl) rfl #[.pointer (some ⟨g, 0, none⟩), .int .i64 4] rfl (by (try simp only [List.map_toArray, List.map_cons, List.map_nil]); first | done | rfl | (simp only [List.length_drop, List.length_take]; rfl)) ?_; (with_reducible refine (Qab.calls kj34 g s0_0 t154 4 t155 t156 w0 _ ?side1 ?side2 A56.out).mono ?_); (case side1 => repeat (first | (with_reducible first | exact HI0.out | apply Qad.alloc | apply Qad.drewN | apply Qad.drew | apply Qad.set_1) | exact HI0.out)); (case side2 => repeat (first | (with_reducible first | exact HB.out | apply Qal | apply Qar | apply Qav | refine Qaw ?_ (Qad.ge HI0.out)) | exact HB.out)); rintro e w60 ⟨rfl, hi, hb, hk⟩; refine ⟨_, rfl, ?_⟩; have n0_ := Aside0.mk (Qai.trans (kk_) hk (.inl rfl)); have n1_ := Aside0.mk (hb); have n2_ := Aside0.mk (hi); clear HK; clear HB; clear HI0; have HK := n0_; have HB := n1_; have HI0 := n2_; clear n0_ n1_ n2_; (try clear hb); (try clear hb2); (try clear hk); (try clear hi)) | ((with_reducible refine QaH (N := 74) rfl ?_); refine Kd.R_lit (Kd.int .i64) _ 3 ?hg (N := 74) ?hd (xs := ([11, 0, 12, 0, 1, t153, 14, t155] : List Int)) (inner := [.int .i64 11, .int .i64 0, .int .i64 12, .int .i64 0, .int .i64 1, .int .i64 t153, .int .i64 14, .int .i64 t155]) (ok := fun _ => True) (okp := fun _ => True) ?hr ?hp (fun _ hk => hk) trivial (Below.refl _ _) (Nat.le_refl _) (by simp) ?_; (case hd => rfl); (case hg => rfl); (case hr => first | (go_simp; done) | (go_simp; rfl)); (case hp => exact (Qa9.one (show Kd.M (Kd.int .i64) _ _ _ 11 [.int .i64 11] from rfl) (Qa9.one (show Kd.M (Kd.int .i64) _ _ _ 0 [.int .i64 0] from rfl) (Qa9.one (show Kd.M (Kd.int .i64) _ _ _ 12 [.int .i64 12] from rfl) (Qa9.one (show Kd.M (Kd.int .i64) _ _ _ 0 [.int .i64 0] from rfl) (Qa9.one (show Kd.M (Kd.int .i64) _ _ _ 1 [.int .i64 1] from rfl) (Qa9.one (show Kd.M (Kd.int .i64) _ _ _ t153 [.int .i64 t153] from rfl) (Qa9.one (show Kd.M (Kd.int .i64) _ _ _ 14 [.int .i64 14] from rfl) (Qa9.one (show Kd.M (Kd.int .i64) _ _ _ t155 [.int .i64 t155] from rfl) (Qa9.none _ _)))))))))); intro v158 w61 ho62 hb hg_ hnew_; clear hg_ hnew_; (first | rw [← Ny157.out] at ho62 | (simp only [Int.reduceToNat] at ho62; rw [← Ny157.out] at ho62)); have n0_ := Aside0.mk (Kd.R_lower ho62 (QaC (w := w) (g := g) (row := none) (kk_))); have n1_ := Aside0.mk (Qad.below (ki_) hb); have n2_ := Aside0.mk (Qai.trans (kk_) (Qai.of_below hb g none) (.inl rfl)); have n3_ := Aside0.mk (Qap (bx_) hb); clear HI0; clear HK; clear HB; have HO159 := n0_; have HI0 := n1_; have HK := n2_; have HB := n3_; clear n0_ n1_ n2_ n3_; clear hb ho62; obtain ⟨Ao63, co63, eo63⟩ := Kd.R_slice HO159.out; subst eo63) | ((with_reducible refine Qax (f := 138) rfl ?_); refine QaX (some 75) rfl rfl Try.func138 (by kernel_rfl) rfl #[.slice Ao63 y157.length co63] rfl (by (try simp only [List.map_toArray, List.map_cons, List.map_nil]); first | done | rfl | (simp only [List.length_drop, List.length_take]; rfl)) ?_; (with_reducible refine (Qam.calls kj34 _ _ y157 t160 _ ?side1 ?side2 A57.out).mono ?_); (case side1 => repeat (first | exact (Kd.R_reads' HO159.out).2.2 | (with_reducible refine Kd.C_alloc ?_ _) | (with_reducible refine Kd.C_drewN ?_ _) | (with_reducible refine Kd.C_drew ?_))); (case side2 => exact (Kd.R_reads' HO159.out).2.1); rintro e w64 ⟨v161, rfl, ho0, hb⟩; refine ⟨_, rfl, ?_⟩; have n0_ := Aside0.mk (Kd.R_below (by (refine QaP ?_); exact HO159.out) hb); have n1_ := Aside0.mk (Kd.R_lower ho0 (QaC (w := w) (g := g) (row := none) (kk_))); have n2_ := Aside0.mk (Qad.below (ki_) hb); have n3_ := Aside0.mk (Qai.trans (kk_) (Qai.of_below hb g none) (.inl rfl)); have n4_ := Aside0.mk (Qap (bx_) hb); clear HO159; clear HI0; clear HK; clear HB; have HO159 := n0_; have HO162 := n1_; have HI0 := n2_; have HK := n3_; have HB := n4_; clear n0_ n1_ n2_ n3_ n4_; (try clear hb); (try clear hb2); (try clear hk); (try clear hi); (try clear ho0)))
                   go_ret
                   exact ⟨_, by first | rfl | (simp [Qan, Qao] <;> rfl) | (simp [*, Qan, Qao] <;> rfl), by (refine QaP ?_); exact HO162.out, ki_, bx_, kk_⟩
                 · rw [if_neg c54] at H
                   have c54b0 : (t151 == 0) = false := beq_eq_false_iff_ne.mpr c54
                   have c54b1 : (t151 != 0) = true := bne_iff_ne.mpr c54
                   replace H := Option.bind_eq_some_iff.mp H
                   obtain ⟨⟨t163, t164⟩, A650, H⟩ := H
                   replace H : ((Qab.f kj34 s0_0 t164 a2).bind fun bt165 => ((Qam.f kj34 (([2, t163, 2, bt165.1, 6, 0, 16, 0] : List Int))).bind fun t170 => (some (t170, bt165.2)))) = some (r1, r2) := H
                   have A65 := Aside0.mk A650
                   clear A650
                   replace H := Option.bind_eq_some_iff.mp H
                   obtain ⟨⟨t165, t166⟩, A660, H⟩ := H
                   replace H : ((Qam.f kj34 (([2, t163, 2, t165, 6, 0, 16, 0] : List Int))).bind fun t170 => (some (t170, t166))) = some (r1, r2) := H
                   have A66 := Aside0.mk A660
                   clear A660
                   obtain ⟨y167, hy167⟩ : ∃ y_ : List Int, y_ = (([2, t163, 2, t165, 6, 0, 16, 0] : List Int)) := ⟨_, rfl⟩
                   replace H : ((Qam.f kj34 y167).bind fun t170 => (some (t170, t166))) = some (r1, r2) := by first | (rw [hy167]; with_reducible exact H) | (have H2_ := (Option.bind_some _ _).symm.trans H; rw [hy167]; with_reducible exact H2_) | (have H2_ := (Option.bind_some _ _).symm.trans H; with_reducible exact H2_) | with_reducible exact H | (rw [hy167]; exact H) | exact H
                   have Ny167 := Aside0.mk hy167
                   clear hy167
                   replace H := Option.bind_eq_some_iff.mp H
                   obtain ⟨t170, A670, H⟩ := H
                   replace H : (some (t170, t166)) = some (r1, r2) := H
                   have A67 := Aside0.mk A670
                   clear A670
                   simp only [Option.some.injEq, Prod.mk.injEq] at H
                   obtain ⟨rfl, rfl⟩ := H
                   go_wp2_with (first | ((with_reducible refine Qax (f := 55) rfl ?_); refine QaX (some 68) rfl rfl Try.func55 (by kernel_rfl) rfl #[.pointer (some ⟨g, 0, none⟩), .int .i64 2] rfl (by (try simp only [List.map_toArray, List.map_cons, List.map_nil]); first | done | rfl | (simp only [List.length_drop, List.length_take]; rfl)) ?_; (with_reducible refine (Qab.calls kj34 g s0_0 t102 2 t151 t152 w0 _ ?side1 ?side2 A53.out).mono ?_); (case side1 => repeat (first | (with_reducible first | exact HI0.out | apply Qad.alloc | apply Qad.drewN | apply Qad.drew | apply Qad.set_1) | exact HI0.out)); (case side2 => repeat (first | (with_reducible first | exact HB.out | apply Qal | apply Qar | apply Qav | refine Qaw ?_ (Qad.ge HI0.out)) | exact HB.out)); rintro e w68 ⟨rfl, hi, hb, hk⟩; refine ⟨_, rfl, ?_⟩; have n0_ := Aside0.mk (Qai.trans (kk_) hk (.inl rfl)); have n1_ := Aside0.mk (hb); have n2_ := Aside0.mk (hi); clear HK; clear HB; clear HI0; have HK := n0_; have HB := n1_; have HI0 := n2_; clear n0_ n1_ n2_; (try clear hb); (try clear hb2); (try clear hk); (try clear hi)) | ((with_reducible refine Qax (f := 55) rfl ?_); refine QaX (some 78) rfl rfl Try.func55 (by kernel_rfl) rfl #[.pointer (some ⟨g, 0, none⟩), .int .i64 a2] rfl (by (try simp only [List.map_toArray, List.map_cons, List.map_nil]); first | done | rfl | (simp only [List.length_drop, List.length_take]; rfl)) ?_; (with_reducible refine (Qab.calls kj34 g s0_0 t152 a2 t163 t164 w0 _ ?side1 ?side2 A65.out).mono ?_); (case side1 => repeat (first | (with_reducible first | exact HI0.out | apply Qad.alloc | apply Qad.drewN | apply Qad.drew | apply Qad.set_1) | exact HI0.out)); (case side2 => repeat (first | (with_reducible first | exact HB.out | apply Qal | apply Qar | apply Qav | refine Qaw ?_ (Qad.ge HI0.out)) | exact HB.out)); rintro e w69 ⟨rfl, hi, hb, hk⟩; refine ⟨_, rfl, ?_⟩; have n0_ := Aside0.mk (Qai.trans (kk_) hk (.inl rfl)); have n1_ := Aside0.mk (hb); have n2_ := Aside0.mk (hi); clear HK; clear HB; clear HI0; have HK := n0_; have HB := n1_; have HI0 := n2_; clear n0_ n1_ n2_; (try clear hb); (try clear hb2); (try clear hk); (try clear hi)) | ((with_reducible refine Qax (f := 55) rfl ?_); refine QaX (some 81) rfl rfl Try.func55 (by kernel_rfl) rfl #[.pointer (some ⟨g, 0, none⟩), .int .i64 a2] rfl (by (try simp only [List.map_toArray, List.map_cons, List.map_nil]); first | done | rfl | (simp only [List.length_drop, List.length_take]; rfl)) ?_; (with_reducible refine (Qab.calls kj34 g s0_0 t164 a2 t165 t166 w0 _ ?side1 ?side2 A66.out).mono ?_); (case side1 => repeat (first | (with_reducible first | exact HI0.out | apply Qad.alloc | apply Qad.drewN | apply Qad.drew | apply Qad.set_1) | exact HI0.out)); (case side2 => repeat (first | (with_reducible first | exact HB.out | apply Qal | apply Qar | apply Qav | refine Qaw ?_ (Qad.ge HI0.out)) | exact HB.out)); rintro e w70 ⟨rfl, hi, hb, hk⟩; refine ⟨_, rfl, ?_⟩; have n0_ := Aside0.mk (Qai.trans (kk_) hk (.inl rfl)); have n1_ := Aside0.mk (hb); have n2_ := Aside0.mk (hi); clear HK; clear HB; clear HI0; have HK := n0_; have HB := n1_; have HI0 := n2_; clear n0_ n1_ n2_; (try clear hb); (try clear hb2); (try clear hk); (try clear hi)) | ((with_reducible refine QaH (N := 82) rfl ?_); refine Kd.R_lit (Kd.int .i64) _ 3 ?hg (N := 82) ?hd (xs := ([2, t163, 2, t165, 6, 0, 16, 0] : List Int)) (inner := [.int .i64 2, .int .i64 t163, .int .i64 2, .int .i64 t165, .int .i64 6, .int .i64 0, .int .i64 16, .int .i64 0]) (ok := fun _ => True) (okp := fun _ => True) ?hr ?hp (fun _ hk => hk) trivial (Below.refl _ _) (Nat.le_refl _) (by simp) ?_; (case hd => rfl); (case hg => rfl); (case hr => first | (go_simp; done) | (go_simp; rfl)); (case hp => exact (Qa9.one (show Kd.M (Kd.int .i64) _ _ _ 2 [.int .i64 2] from rfl) (Qa9.one (show Kd.M (Kd.int .i64) _ _ _ t163 [.int .i64 t163] from rfl) (Qa9.one (show Kd.M (Kd.int .i64) _ _ _ 2 [.int .i64 2] from rfl) (Qa9.one (show Kd.M (Kd.int .i64) _ _ _ t165 [.int .i64 t165] from rfl) (Qa9.one (show Kd.M (Kd.int .i64) _ _ _ 6 [.int .i64 6] from rfl) (Qa9.one (show Kd.M (Kd.int .i64) _ _ _ 0 [.int .i64 0] from rfl) (Qa9.one (show Kd.M (Kd.int .i64) _ _ _ 16 [.int .i64 16] from rfl) (Qa9.one (show Kd.M (Kd.int .i64) _ _ _ 0 [.int .i64 0] from rfl) (Qa9.none _ _)))))))))); intro v168 w71 ho72 hb hg_ hnew_; clear hg_ hnew_; (first | rw [← Ny167.out] at ho72 | (simp only [Int.reduceToNat] at ho72; rw [← Ny167.out] at ho72)); have n0_ := Aside0.mk (Kd.R_lower ho72 (QaC (w := w) (g := g) (row := none) (kk_))); have n1_ := Aside0.mk (Qad.below (ki_) hb); have n2_ := Aside0.mk (Qai.trans (kk_) (Qai.of_below hb g none) (.inl rfl)); have n3_ := Aside0.mk (Qap (bx_) hb); clear HI0; clear HK; clear HB; have HO169 := n0_; have HI0 := n1_; have HK := n2_; have HB := n3_; clear n0_ n1_ n2_ n3_; clear hb ho72; obtain ⟨Ao73, co73, eo73⟩ := Kd.R_slice HO169.out; subst eo73) | ((with_reducible refine Qax (f := 138) rfl ?_); refine QaX (some 83) rfl rfl Try.func138 (by kernel_rfl) rfl #[.slice Ao73 y167.length co73] rfl (by (try simp only [List.map_toArray, List.map_cons, List.map_nil]); first | done | rfl | (simp only [List.length_drop, List.length_take]; rfl)) ?_; (with_reducible refine (Qam.calls kj34 _ _ y167 t170 _ ?side1 ?side2 A67.out).mono ?_); (case side1 => repeat (first | exact (Kd.R_reads' HO169.out).2.2 | (with_reducible refine Kd.C_alloc ?_ _) | (with_reducible refine Kd.C_drewN ?_ _) | (with_reducible refine Kd.C_drew ?_))); (case side2 => exact (Kd.R_reads' HO169.out).2.1); rintro e w74 ⟨v171, rfl, ho0, hb⟩; refine ⟨_, rfl, ?_⟩; have n0_ := Aside0.mk (Kd.R_below (by (refine QaP ?_); exact HO169.out) hb); have n1_ := Aside0.mk (Kd.R_lower ho0 (QaC (w := w) (g := g) (row := none) (kk_))); have n2_ := Aside0.mk (Qad.below (ki_) hb); have n3_ := Aside0.mk (Qai.trans (kk_) (Qai.of_below hb g none) (.inl rfl)); have n4_ := Aside0.mk (Qap (bx_) hb); clear HO169; clear HI0; clear HK; clear HB; have HO169 := n0_; have HO172 := n1_; have HI0 := n2_; have HK := n3_; have HB := n4_; clear n0_ n1_ n2_ n3_ n4_; (try clear hb); (try clear hb2); (try clear hk); (try clear hi); (try clear ho0)))
                   go_ret
                   exact ⟨_, by first | rfl | (simp [Qan, Qao] <;> rfl) | (simp [*, Qan, Qao] <;> rfl), by (refine QaP ?_); exact HO172.out, ki_, bx_, kk_⟩
               · rw [if_neg c52] at H
                 have c52b0 : (t101 == 7) = false := beq_eq_false_iff_ne.mpr c52
                 have c52b1 : (t101 != 7) = true := bne_iff_ne.mpr c52
                 by_cases c75 : t101 = 8
                 · rw [if_pos c75] at H
                   have c75b0 : (t101 == 8) = true := beq_iff_eq.mpr c75
                   have c75b1 : (t101 != 8) = false := bne_eq_false_iff_eq.mpr c75
                   clear c75
                   replace H := Option.bind_eq_some_iff.mp H
                   obtain ⟨⟨t173, t174⟩, A760, H⟩ := H
                   replace H : ((Qab.f kj34 s0_0 t174 9).bind fun bt175 => ((Qam.f kj34 (([2, t173, 1, bt175.1, 15, 0] : List Int))).bind fun t180 => (if t180.length < 8796093022208 then (some ((t180 ++ [(⟨4, 0⟩ : Qac)]), bt175.2)) else (none)))) = some (r1, r2) := H
                   have A76 := Aside0.mk A760
                   clear A760
                   replace H := Option.bind_eq_some_iff.mp H
                   obtain ⟨⟨t175, t176⟩, A770, H⟩ := H
                   replace H : ((Qam.f kj34 (([2, t173, 1, t175, 15, 0] : List Int))).bind fun t180 => (if t180.length < 8796093022208 then (some ((t180 ++ [(⟨4, 0⟩ : Qac)]), t176)) else (none))) = some (r1, r2) := H
                   have A77 := Aside0.mk A770
                   clear A770
                   obtain ⟨y177, hy177⟩ : ∃ y_ : List Int, y_ = (([2, t173, 1, t175, 15, 0] : List Int)) := ⟨_, rfl⟩
                   replace H : ((Qam.f kj34 y177).bind fun t180 => (if t180.length < 8796093022208 then (some ((t180 ++ [(⟨4, 0⟩ : Qac)]), t176)) else (none))) = some (r1, r2) := by first | (rw [hy177]; with_reducible exact H) | (have H2_ := (Option.bind_some _ _).symm.trans H; rw [hy177]; with_reducible exact H2_) | (have H2_ := (Option.bind_some _ _).symm.trans H; with_reducible exact H2_) | with_reducible exact H | (rw [hy177]; exact H) | exact H
                   have Ny177 := Aside0.mk hy177
                   clear hy177
                   replace H := Option.bind_eq_some_iff.mp H
                   obtain ⟨t180, A780, H⟩ := H
                   replace H : (if t180.length < 8796093022208 then (some ((t180 ++ [(⟨4, 0⟩ : Qac)]), t176)) else (none)) = some (r1, r2) := H
                   have A78 := Aside0.mk A780
                   clear A780
                   by_cases c79 : t180.length < 8796093022208
                   · rw [if_pos c79] at H
                     have LMc79 := Aside0.mk c79
                     clear c79
                     obtain ⟨y183, hy183⟩ : ∃ y_ : List (Qac), y_ = (t180 ++ [(⟨4, 0⟩ : Qac)]) := ⟨_, rfl⟩
                     replace H : (some (y183, t176)) = some (r1, r2) := by first | (rw [hy183]; with_reducible exact H) | (have H2_ := (Option.bind_some _ _).symm.trans H; rw [hy183]; with_reducible exact H2_) | (have H2_ := (Option.bind_some _ _).symm.trans H; with_reducible exact H2_) | with_reducible exact H | (rw [hy183]; exact H) | exact H
                     have Ny183 := Aside0.mk hy183
                     clear hy183
                     simp only [Option.some.injEq, Prod.mk.injEq] at H
                     obtain ⟨rfl, rfl⟩ := H
                     go_wp2_with (first | ((with_reducible refine Qax (f := 55) rfl ?_); refine QaX (some 88) rfl rfl Try.func55 (by kernel_rfl) rfl #[.pointer (some ⟨g, 0, none⟩), .int .i64 a2] rfl (by (try simp only [List.map_toArray, List.map_cons, List.map_nil]); first | done | rfl | (simp only [List.length_drop, List.length_take]; rfl)) ?_; (with_reducible refine (Qab.calls kj34 g s0_0 t102 a2 t173 t174 w0 _ ?side1 ?side2 A76.out).mono ?_); (case side1 => repeat (first | (with_reducible first | exact HI0.out | apply Qad.alloc | apply Qad.drewN | apply Qad.drew | apply Qad.set_1) | exact HI0.out)); (case side2 => repeat (first | (with_reducible first | exact HB.out | apply Qal | apply Qar | apply Qav | refine Qaw ?_ (Qad.ge HI0.out)) | exact HB.out)); rintro e w80 ⟨rfl, hi, hb, hk⟩; refine ⟨_, rfl, ?_⟩; have n0_ := Aside0.mk (Qai.trans (kk_) hk (.inl rfl)); have n1_ := Aside0.mk (hb); have n2_ := Aside0.mk (hi); clear HK; clear HB; clear HI0; have HK := n0_; have HB := n1_; have HI0 := n2_; clear n0_ n1_ n2_; (try clear hb); (try clear hb2); (try clear hk); (try clear hi)) | ((with_reducible refine Qax (f := 55) rfl ?_); refine QaX (some 90) rfl rfl Try.func55 (by kernel_rfl) rfl #[.pointer (some ⟨g, 0, none⟩), .int .i64 9] rfl (by (try simp only [List.map_toArray, List.map_cons, List.map_nil]); first | done | rfl | (simp only [List.length_drop, List.length_take]; rfl)) ?_; (with_reducible refine (Qab.calls kj34 g s0_0 t174 9 t175 t176 w0 _ ?side1 ?side2 A77.out).mono ?_); (case side1 => repeat (first | (with_reducible first | exact HI0.out | apply Qad.alloc | apply Qad.drewN | apply Qad.drew | apply Qad.set_1) | exact HI0.out)); (case side2 => repeat (first | (with_reducible first | exact HB.out | apply Qal | apply Qar | apply Qav | refine Qaw ?_ (Qad.ge HI0.out)) | exact HB.out)); rintro e w81 ⟨rfl, hi, hb, hk⟩; refine ⟨_, rfl, ?_⟩; have n0_ := Aside0.mk (Qai.trans (kk_) hk (.inl rfl)); have n1_ := Aside0.mk (hb); have n2_ := Aside0.mk (hi); clear HK; clear HB; clear HI0; have HK := n0_; have HB := n1_; have HI0 := n2_; clear n0_ n1_ n2_; (try clear hb); (try clear hb2); (try clear hk); (try clear hi)) | ((with_reducible refine QaH (N := 91) rfl ?_); refine Kd.R_lit (Kd.int .i64) _ 3 ?hg (N := 91) ?hd (xs := ([2, t173, 1, t175, 15, 0] : List Int)) (inner := [.int .i64 2, .int .i64 t173, .int .i64 1, .int .i64 t175, .int .i64 15, .int .i64 0]) (ok := fun _ => True) (okp := fun _ => True) ?hr ?hp (fun _ hk => hk) trivial (Below.refl _ _) (Nat.le_refl _) (by simp) ?_; (case hd => rfl); (case hg => rfl); (case hr => first | (go_simp; done) | (go_simp; rfl)); (case hp => exact (Qa9.one (show Kd.M (Kd.int .i64) _ _ _ 2 [.int .i64 2] from rfl) (Qa9.one (show Kd.M (Kd.int .i64) _ _ _ t173 [.int .i64 t173] from rfl) (Qa9.one (show Kd.M (Kd.int .i64) _ _ _ 1 [.int .i64 1] from rfl) (Qa9.one (show Kd.M (Kd.int .i64) _ _ _ t175 [.int .i64 t175] from rfl) (Qa9.one (show Kd.M (Kd.int .i64) _ _ _ 15 [.int .i64 15] from rfl) (Qa9.one (show Kd.M (Kd.int .i64) _ _ _ 0 [.int .i64 0] from rfl) (Qa9.none _ _)))))))); intro v178 w82 ho83 hb hg_ hnew_; clear hg_ hnew_; (first | rw [← Ny177.out] at ho83 | (simp only [Int.reduceToNat] at ho83; rw [← Ny177.out] at ho83)); have n0_ := Aside0.mk (Kd.R_lower ho83 (QaC (w := w) (g := g) (row := none) (kk_))); have n1_ := Aside0.mk (Qad.below (ki_) hb); have n2_ := Aside0.mk (Qai.trans (kk_) (Qai.of_below hb g none) (.inl rfl)); have n3_ := Aside0.mk (Qap (bx_) hb); clear HI0; clear HK; clear HB; have HO179 := n0_; have HI0 := n1_; have HK := n2_; have HB := n3_; clear n0_ n1_ n2_ n3_; clear hb ho83; obtain ⟨Ao84, co84, eo84⟩ := Kd.R_slice HO179.out; subst eo84) | ((with_reducible refine Qax (f := 138) rfl ?_); refine QaX (some 92) rfl rfl Try.func138 (by kernel_rfl) rfl #[.slice Ao84 y177.length co84] rfl (by (try simp only [List.map_toArray, List.map_cons, List.map_nil]); first | done | rfl | (simp only [List.length_drop, List.length_take]; rfl)) ?_; (with_reducible refine (Qam.calls kj34 _ _ y177 t180 _ ?side1 ?side2 A78.out).mono ?_); (case side1 => repeat (first | exact (Kd.R_reads' HO179.out).2.2 | (with_reducible refine Kd.C_alloc ?_ _) | (with_reducible refine Kd.C_drewN ?_ _) | (with_reducible refine Kd.C_drew ?_))); (case side2 => exact (Kd.R_reads' HO179.out).2.1); rintro e w85 ⟨v181, rfl, ho0, hb⟩; refine ⟨_, rfl, ?_⟩; have n0_ := Aside0.mk (Kd.R_below (by (refine QaP ?_); exact HO179.out) hb); have n1_ := Aside0.mk (Kd.R_lower ho0 (QaC (w := w) (g := g) (row := none) (kk_))); have n2_ := Aside0.mk (Qad.below (ki_) hb); have n3_ := Aside0.mk (Qai.trans (kk_) (Qai.of_below hb g none) (.inl rfl)); have n4_ := Aside0.mk (Qap (bx_) hb); clear HO179; clear HI0; clear HK; clear HB; have HO179 := n0_; have HO182 := n1_; have HI0 := n2_; have HK := n3_; have HB := n4_; clear n0_ n1_ n2_ n3_ n4_; (try clear hb); (try clear hb2); (try clear hk); (try clear hi); (try clear ho0)) | ((with_reducible refine QaW (b := .append) (xs := #[.tmp 92, .tmp 94]) rfl ?_); at_builtin; refine Kd.R_append QaB w.heap.size rfl (.tmp 92) (.tmp 94) 32 83 (.agg #[(.int .i64 0), (.int .i64 0)]) 16 rfl Try.underlying32 QbO rfl (by decide) (by omega) v181 t180 (⟨4, 0⟩ : Qac) [.int .i64 4, .int .i64 0] (fun _ => True) (fun _ => False) rfl rfl ?aP (fun _ hk => hk.elim) ?aF ?aO (Below.refl _ _) ?aS ?aL ?_; (case aP => exact Qa0 _ _ _ (⟨4, 0⟩ : Qac)); (case aF => exact (fun _ _ => trivial)); (case aO => exact (by (refine QaP ?_); exact HO182.out)); (case aS => exact (QaC (w := w) (g := g) (row := none) (kk_))); (case aL => have := LMc79.out; omega); intro v184 w86 ho hb hg hat; rw [← Ny183.out] at ho; have n0_ := Aside0.mk (Qad.grown (ki_) hg (Qad.own_ne HI0.out HO182.out (by decide))); have n1_ := Aside0.mk (Kd.R_over' (by (refine QaP ?_); exact HO179.out) (Kd.R_typed (by (refine QaP ?_); exact HO182.out)) (by decide) hg); have n2_ := Aside0.mk (Qa5 (bx_) HL.out hb); have n3_ := Aside0.mk (Qai.trans (kk_) (Qai.of_grown hg g) (Kd.R_base2 HO182.out)); have n4_ := Aside0.mk (ho); clear HI0; clear HO179; clear HB; clear HK; clear HO182; have HI0 := n0_; have HO179 := n1_; have HB := n2_; have HK := n3_; have HO185 := n4_; clear n0_ n1_ n2_ n3_ n4_; clear ho hb hg hat))
                     go_ret
                     exact ⟨_, by first | rfl | (simp [Qan, Qao] <;> rfl) | (simp [*, Qan, Qao] <;> rfl), by (refine QaP ?_); exact HO185.out, ki_, bx_, kk_⟩
                   · rw [if_neg c79] at H
                     exact absurd H (by simp)
                 · rw [if_neg c75] at H
                   have c75b0 : (t101 == 8) = false := beq_eq_false_iff_ne.mpr c75
                   have c75b1 : (t101 != 8) = true := bne_iff_ne.mpr c75
                   replace H := Option.bind_eq_some_iff.mp H
                   obtain ⟨⟨t186, t187⟩, A870, H⟩ := H
                   replace H : ((Qab.f kj34 s0_0 t187 50).bind fun bt188 => ((Qam.f kj34 (([1, t186, 1, bt188.1, 5, 0, 16, 0] : List Int))).bind fun t193 => (some (t193, bt188.2)))) = some (r1, r2) := H
                   have A87 := Aside0.mk A870
                   clear A870
                   replace H := Option.bind_eq_some_iff.mp H
                   obtain ⟨⟨t188, t189⟩, A880, H⟩ := H
                   replace H : ((Qam.f kj34 (([1, t186, 1, t188, 5, 0, 16, 0] : List Int))).bind fun t193 => (some (t193, t189))) = some (r1, r2) := H
                   have A88 := Aside0.mk A880
                   clear A880
                   obtain ⟨y190, hy190⟩ : ∃ y_ : List Int, y_ = (([1, t186, 1, t188, 5, 0, 16, 0] : List Int)) := ⟨_, rfl⟩
                   replace H : ((Qam.f kj34 y190).bind fun t193 => (some (t193, t189))) = some (r1, r2) := by first | (rw [hy190]; with_reducible exact H) | (have H2_ := (Option.bind_some _ _).symm.trans H; rw [hy190]; with_reducible exact H2_) | (have H2_ := (Option.bind_some _ _).symm.trans H; with_reducible exact H2_) | with_reducible exact H | (rw [hy190]; exact H) | exact H
                   have Ny190 := Aside0.mk hy190
                   clear hy190
                   replace H := Option.bind_eq_some_iff.mp H
                   obtain ⟨t193, A890, H⟩ := H
                   replace H : (some (t193, t189)) = some (r1, r2) := H
                   have A89 := Aside0.mk A890
                   clear A890
                   simp only [Option.some.injEq, Prod.mk.injEq] at H
                   obtain ⟨rfl, rfl⟩ := H
                   go_wp2_with (first | ((with_reducible refine Qax (f := 55) rfl ?_); refine QaX (some 97) rfl rfl Try.func55 (by kernel_rfl) rfl #[.pointer (some ⟨g, 0, none⟩), .int .i64 50] rfl (by (try simp only [List.map_toArray, List.map_cons, List.map_nil]); first | done | rfl | (simp only [List.length_drop, List.length_take]; rfl)) ?_; (with_reducible refine (Qab.calls kj34 g s0_0 t102 50 t186 t187 w0 _ ?side1 ?side2 A87.out).mono ?_); (case side1 => repeat (first | (with_reducible first | exact HI0.out | apply Qad.alloc | apply Qad.drewN | apply Qad.drew | apply Qad.set_1) | exact HI0.out)); (case side2 => repeat (first | (with_reducible first | exact HB.out | apply Qal | apply Qar | apply Qav | refine Qaw ?_ (Qad.ge HI0.out)) | exact HB.out)); rintro e w90 ⟨rfl, hi, hb, hk⟩; refine ⟨_, rfl, ?_⟩; have n0_ := Aside0.mk (Qai.trans (kk_) hk (.inl rfl)); have n1_ := Aside0.mk (hb); have n2_ := Aside0.mk (hi); clear HK; clear HB; clear HI0; have HK := n0_; have HB := n1_; have HI0 := n2_; clear n0_ n1_ n2_; (try clear hb); (try clear hb2); (try clear hk); (try clear hi)) | ((with_reducible refine Qax (f := 55) rfl ?_); refine QaX (some 99) rfl rfl Try.func55 (by kernel_rfl) rfl #[.pointer (some ⟨g, 0, none⟩), .int .i64 50] rfl (by (try simp only [List.map_toArray, List.map_cons, List.map_nil]); first | done | rfl | (simp only [List.length_drop, List.length_take]; rfl)) ?_; (with_reducible refine (Qab.calls kj34 g s0_0 t187 50 t188 t189 w0 _ ?side1 ?side2 A88.out).mono ?_); (case side1 => repeat (first | (with_reducible first | exact HI0.out | apply Qad.alloc | apply Qad.drewN | apply Qad.drew | apply Qad.set_1) | exact HI0.out)); (case side2 => repeat (first | (with_reducible first | exact HB.out | apply Qal | apply Qar | apply Qav | refine Qaw ?_ (Qad.ge HI0.out)) | exact HB.out)); rintro e w91 ⟨rfl, hi, hb, hk⟩; refine ⟨_, rfl, ?_⟩; have n0_ := Aside0.mk (Qai.trans (kk_) hk (.inl rfl)); have n1_ := Aside0.mk (hb); have n2_ := Aside0.mk (hi); clear HK; clear HB; clear HI0; have HK := n0_; have HB := n1_; have HI0 := n2_; clear n0_ n1_ n2_; (try clear hb); (try clear hb2); (try clear hk); (try clear hi)) | ((with_reducible refine QaH (N := 100) rfl ?_); refine Kd.R_lit (Kd.int .i64) _ 3 ?hg (N := 100) ?hd (xs := ([1, t186, 1, t188, 5, 0, 16, 0] : List Int)) (inner := [.int .i64 1, .int .i64 t186, .int .i64 1, .int .i64 t188, .int .i64 5, .int .i64 0, .int .i64 16, .int .i64 0]) (ok := fun _ => True) (okp := fun _ => True) ?hr ?hp (fun _ hk => hk) trivial (Below.refl _ _) (Nat.le_refl _) (by simp) ?_; (case hd => rfl); (case hg => rfl); (case hr => first | (go_simp; done) | (go_simp; rfl)); (case hp => exact (Qa9.one (show Kd.M (Kd.int .i64) _ _ _ 1 [.int .i64 1] from rfl) (Qa9.one (show Kd.M (Kd.int .i64) _ _ _ t186 [.int .i64 t186] from rfl) (Qa9.one (show Kd.M (Kd.int .i64) _ _ _ 1 [.int .i64 1] from rfl) (Qa9.one (show Kd.M (Kd.int .i64) _ _ _ t188 [.int .i64 t188] from rfl) (Qa9.one (show Kd.M (Kd.int .i64) _ _ _ 5 [.int .i64 5] from rfl) (Qa9.one (show Kd.M (Kd.int .i64) _ _ _ 0 [.int .i64 0] from rfl) (Qa9.one (show Kd.M (Kd.int .i64) _ _ _ 16 [.int .i64 16] from rfl) (Qa9.one (show Kd.M (Kd.int .i64) _ _ _ 0 [.int .i64 0] from rfl) (Qa9.none _ _)))))))))); intro v191 w92 ho93 hb hg_ hnew_; clear hg_ hnew_; (first | rw [← Ny190.out] at ho93 | (simp only [Int.reduceToNat] at ho93; rw [← Ny190.out] at ho93)); have n0_ := Aside0.mk (Kd.R_lower ho93 (QaC (w := w) (g := g) (row := none) (kk_))); have n1_ := Aside0.mk (Qad.below (ki_) hb); have n2_ := Aside0.mk (Qai.trans (kk_) (Qai.of_below hb g none) (.inl rfl)); have n3_ := Aside0.mk (Qap (bx_) hb); clear HI0; clear HK; clear HB; have HO192 := n0_; have HI0 := n1_; have HK := n2_; have HB := n3_; clear n0_ n1_ n2_ n3_; clear hb ho93; obtain ⟨Ao94, co94, eo94⟩ := Kd.R_slice HO192.out; subst eo94) | ((with_reducible refine Qax (f := 138) rfl ?_); refine QaX (some 101) rfl rfl Try.func138 (by kernel_rfl) rfl #[.slice Ao94 y190.length co94] rfl (by (try simp only [List.map_toArray, List.map_cons, List.map_nil]); first | done | rfl | (simp only [List.length_drop, List.length_take]; rfl)) ?_; (with_reducible refine (Qam.calls kj34 _ _ y190 t193 _ ?side1 ?side2 A89.out).mono ?_); (case side1 => repeat (first | exact (Kd.R_reads' HO192.out).2.2 | (with_reducible refine Kd.C_alloc ?_ _) | (with_reducible refine Kd.C_drewN ?_ _) | (with_reducible refine Kd.C_drew ?_))); (case side2 => exact (Kd.R_reads' HO192.out).2.1); rintro e w95 ⟨v194, rfl, ho0, hb⟩; refine ⟨_, rfl, ?_⟩; have n0_ := Aside0.mk (Kd.R_below (by (refine QaP ?_); exact HO192.out) hb); have n1_ := Aside0.mk (Kd.R_lower ho0 (QaC (w := w) (g := g) (row := none) (kk_))); have n2_ := Aside0.mk (Qad.below (ki_) hb); have n3_ := Aside0.mk (Qai.trans (kk_) (Qai.of_below hb g none) (.inl rfl)); have n4_ := Aside0.mk (Qap (bx_) hb); clear HO192; clear HI0; clear HK; clear HB; have HO192 := n0_; have HO195 := n1_; have HI0 := n2_; have HK := n3_; have HB := n4_; clear n0_ n1_ n2_ n3_ n4_; (try clear hb); (try clear hb2); (try clear hk); (try clear hi); (try clear ho0)))
                   go_ret
                   exact ⟨_, by first | rfl | (simp [Qan, Qao] <;> rfl) | (simp [*, Qan, Qao] <;> rfl), by (refine QaP ?_); exact HO195.out, ki_, bx_, kk_⟩
end Go.Proofs.Ytabcijheemjplaa.G
