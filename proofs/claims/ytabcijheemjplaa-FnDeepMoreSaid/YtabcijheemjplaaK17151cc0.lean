import Derived.Test.YtabcijheemjplaaK6ca9bb5a
import Derived.Test.YtabcijheemjplaaKce8f5f6f
namespace Go.Proofs.Ytabcijheemjplaa.G
open Go.RowKit Go.Proofs.YtabcijheemjplaaW.PrintWords Go.Proofs.YtabcijheemjplaaW.PrintLast Go.Proofs.YtabcijheemjplaaW.PrintMore
attribute [local go_sem] QaQ QaR Qa3 Qa4 QaJ QaK QaS QaT
set_option linter.unusedVariables false
set_option linter.unusedSimpArgs false
mutual
def Qaq.j0 : Nat → Int → Bool → List (Qae) → Int → Int → Option (Int × Int)
 | 0, _, _, _, _, _ => none
 | k + 1, x7, x8, x102000, x103000, x103001 => if x8 = true then (some (0, 1)) else (if x7 = 3 then (Qaq.j1 k x7 (x7 == 3) x102000 x103000 x103001) else (if x7 = 4 then (Qaq.j1 k x7 (x7 == 4) x102000 x103000 x103001) else (if x7 = 8 then (Qaq.j1 k x7 (x7 == 8) x102000 x103000 x103001) else (if x7 = 10 then (Qaq.j1 k x7 (x7 == 10) x102000 x103000 x103001) else (Qaq.j1 k x7 (x7 == 16) x102000 x103000 x103001)))))
def Qaq.j1 : Nat → Int → Bool → List (Qae) → Int → Int → Option (Int × Int)
 | 0, _, _, _, _, _ => none
 | k + 1, x7, x12, x102000, x103000, x103001 => if x12 = true then (some (1, 0)) else (if x7 = 5 then (Qaq.j2 k x7 (x7 == 5) x102000 x103000 x103001) else (Qaq.j2 k x7 (x7 == 6) x102000 x103000 x103001))
def Qaq.j2 : Nat → Int → Bool → List (Qae) → Int → Int → Option (Int × Int)
 | 0, _, _, _, _, _ => none
 | k + 1, x7, x18, x102000, x103000, x103001 => if x18 = true then (some (2, 1)) else (if x7 = 12 then (Qaq.j3 k x7 (x7 == 12) x102000 x103000 x103001) else (if x7 = 13 then (Qaq.j3 k x7 (x7 == 13) x102000 x103000 x103001) else (if x7 = 17 then (Qaq.j3 k x7 (x7 == 17) x102000 x103000 x103001) else (Qaq.j3 k x7 (x7 == 18) x102000 x103000 x103001))))
def Qaq.j3 : Nat → Int → Bool → List (Qae) → Int → Int → Option (Int × Int)
 | 0, _, _, _, _, _ => none
 | k + 1, x7, x21, x102000, x103000, x103001 => if x21 = true then (some (1, 1)) else (if x7 = 14 then (some (2, 0)) else (if x7 = 15 then (some (2, 1)) else (if x7 = 9 then ((QaM.f x103001 0 (wrap64 ((x102000.length : Int) - 1))).bind fun t103 => (if t103 = true then (if 0 ≤ x103001 then (if x103001 < (x102000.length : Int) then (some ((Qaa x102000 x103001).f0, 1)) else (none)) else (none)) else (some (0, 0)))) else (some (0, 0)))))
end
def Qaq.f (k : Nat) (l0_0 : List (Qae)) (a1_0 : Int) (a1_1 : Int) : Option (Int × Int) := if a1_0 = 1 then (Qaq.j0 k a1_0 (a1_0 == 1) l0_0 a1_0 a1_1) else (if a1_0 = 2 then (Qaq.j0 k a1_0 (a1_0 == 2) l0_0 a1_0 a1_1) else (Qaq.j0 k a1_0 (a1_0 == 11) l0_0 a1_0 a1_1))
theorem Qaq.mono_l : ∀ k, (∀ y0 y1 y2 y3 y4, LeO (Qaq.j0 k y0 y1 y2 y3 y4) (Qaq.j0 (k + 1) y0 y1 y2 y3 y4)) ∧ (∀ y0 y1 y2 y3 y4, LeO (Qaq.j1 k y0 y1 y2 y3 y4) (Qaq.j1 (k + 1) y0 y1 y2 y3 y4)) ∧ (∀ y0 y1 y2 y3 y4, LeO (Qaq.j2 k y0 y1 y2 y3 y4) (Qaq.j2 (k + 1) y0 y1 y2 y3 y4)) ∧ (∀ y0 y1 y2 y3 y4, LeO (Qaq.j3 k y0 y1 y2 y3 y4) (Qaq.j3 (k + 1) y0 y1 y2 y3 y4))
 | 0 => ⟨fun _ _ _ _ _ r h => by simp [Qaq.j0] at h, fun _ _ _ _ _ r h => by simp [Qaq.j1] at h, fun _ _ _ _ _ r h => by simp [Qaq.j2] at h, fun _ _ _ _ _ r h => by simp [Qaq.j3] at h⟩
 | k + 1 => by
   obtain ⟨ih0, ih1, ih2, ih3⟩ := Qaq.mono_l k
   refine ⟨?_, ?_, ?_, ?_⟩
   · intro y0 y1 y2 y3 y4
     unfold Qaq.j0
     repeat' first
     | (with_reducible exact ih0 _ _ _ _ _)
     | (with_reducible exact ih1 _ _ _ _ _)
     | (with_reducible exact ih2 _ _ _ _ _)
     | (with_reducible exact ih3 _ _ _ _ _)
     | (with_reducible exact LeO.refl _)
     | (with_reducible exact LeO.none _)
     | (with_reducible refine LeO.ite ?_ ?_)
     | (with_reducible refine LeO.bind ?_ (fun _ => ?_))
     | exact ih0 _ _ _ _ _
     | exact ih1 _ _ _ _ _
     | exact ih2 _ _ _ _ _
     | exact ih3 _ _ _ _ _
     | exact LeO.none _
     | refine LeO.ite ?_ ?_
     | refine LeO.bind ?_ (fun _ => ?_)
   · intro y0 y1 y2 y3 y4
     unfold Qaq.j1
     repeat' first
     | (with_reducible exact ih0 _ _ _ _ _)
     | (with_reducible exact ih1 _ _ _ _ _)
     | (with_reducible exact ih2 _ _ _ _ _)
     | (with_reducible exact ih3 _ _ _ _ _)
     | (with_reducible exact LeO.refl _)
     | (with_reducible exact LeO.none _)
     | (with_reducible refine LeO.ite ?_ ?_)
     | (with_reducible refine LeO.bind ?_ (fun _ => ?_))
     | exact ih0 _ _ _ _ _
     | exact ih1 _ _ _ _ _
     | exact ih2 _ _ _ _ _
     | exact ih3 _ _ _ _ _
     | exact LeO.none _
     | refine LeO.ite ?_ ?_
     | refine LeO.bind ?_ (fun _ => ?_)
   · intro y0 y1 y2 y3 y4
     unfold Qaq.j2
     repeat' first
     | (with_reducible exact ih0 _ _ _ _ _)
     | (with_reducible exact ih1 _ _ _ _ _)
     | (with_reducible exact ih2 _ _ _ _ _)
     | (with_reducible exact ih3 _ _ _ _ _)
     | (with_reducible exact LeO.refl _)
     | (with_reducible exact LeO.none _)
     | (with_reducible refine LeO.ite ?_ ?_)
     | (with_reducible refine LeO.bind ?_ (fun _ => ?_))
     | exact ih0 _ _ _ _ _
     | exact ih1 _ _ _ _ _
     | exact ih2 _ _ _ _ _
     | exact ih3 _ _ _ _ _
     | exact LeO.none _
     | refine LeO.ite ?_ ?_
     | refine LeO.bind ?_ (fun _ => ?_)
   · intro y0 y1 y2 y3 y4
     unfold Qaq.j3
     repeat' first
     | (with_reducible exact ih0 _ _ _ _ _)
     | (with_reducible exact ih1 _ _ _ _ _)
     | (with_reducible exact ih2 _ _ _ _ _)
     | (with_reducible exact ih3 _ _ _ _ _)
     | (with_reducible exact LeO.refl _)
     | (with_reducible exact LeO.none _)
     | (with_reducible refine LeO.ite ?_ ?_)
     | (with_reducible refine LeO.bind ?_ (fun _ => ?_))
     | exact ih0 _ _ _ _ _
     | exact ih1 _ _ _ _ _
     | exact ih2 _ _ _ _ _
     | exact ih3 _ _ _ _ _
     | exact LeO.none _
     | refine LeO.ite ?_ ?_
     | refine LeO.bind ?_ (fun _ => ?_)
theorem Qaq.mono : ∀ a0 a1 a2 k, LeO (Qaq.f k a0 a1 a2) (Qaq.f (k + 1) a0 a1 a2) := by
 intro a0 a1 a2 k
 obtain ⟨ih0, ih1, ih2, ih3⟩ := Qaq.mono_l k
 unfold Qaq.f
 repeat' first
  | (with_reducible exact ih0 _ _ _ _ _)
  | (with_reducible exact ih1 _ _ _ _ _)
  | (with_reducible exact ih2 _ _ _ _ _)
  | (with_reducible exact ih3 _ _ _ _ _)
  | (with_reducible exact LeO.refl _)
  | (with_reducible exact LeO.none _)
  | (with_reducible refine LeO.ite ?_ ?_)
  | (with_reducible refine LeO.bind ?_ (fun _ => ?_))
  | exact ih0 _ _ _ _ _
  | exact ih1 _ _ _ _ _
  | exact ih2 _ _ _ _ _
  | exact ih3 _ _ _ _ _
  | exact LeO.none _
  | refine LeO.ite ?_ ?_
  | refine LeO.bind ?_ (fun _ => ?_)
set_option maxHeartbeats 8000000 in
set_option maxRecDepth 100000 in
theorem Qaq.calls (k : Nat) (A0_0 : Option Addr) (c0_0 : Nat) (l0_0 : List (Qae)) (a1_0 : Int) (a1_1 : Int) (r1 : Int) (r2 : Int) (w : World) (hr0_0 : Kd.C QaD w A0_0 l0_0.length l0_0) (hc0_0 : l0_0.length ≤ c0_0) (h : Qaq.f k l0_0 a1_0 a1_1 = some (r1, r2)) :
 Calls Try.prog 106 #[.agg #[.slice A0_0 l0_0.length c0_0], .agg #[.int .i64 a1_0, .int .i64 a1_1]] w fun e w' => e = .returned (.tuple #[.int .i64 r1, .int .i64 r2]) ∧ Below w.heap.size w w' := by
 have hu25 := Try.underlying25
 have hu83 := Try.underlying83
 have HR0_0 := Aside0.mk hr0_0
 have HC0_0 := Aside0.mk hc0_0
 clear hr0_0 hc0_0
 have HB := Aside0.mk (Below.refl w.heap.size w)
 have H : (if a1_0 = 1 then (Qaq.j0 k a1_0 (a1_0 == 1) l0_0 a1_0 a1_1) else (if a1_0 = 2 then (Qaq.j0 k a1_0 (a1_0 == 2) l0_0 a1_0 a1_1) else (Qaq.j0 k a1_0 (a1_0 == 11) l0_0 a1_0 a1_1))) = some (r1, r2) := h
 clear h
 have HC3 := Aside0.mk H
 clear H
 go_enter Try.func106, Try.ntmps106
 go_upto_if 8 with (first | ((with_reducible refine QaH (N := 2) rfl ?_); refine QaN ?hg (N := 2) ?hd (cs := #[.slice A0_0 l0_0.length c0_0]) (t := 25) ?hr ?_; (case hd => rfl); (case hg => rfl); (case hr => first | (go_simp; done) | (go_simp; rfl)); intro gb101 hg w4 hbox hb; have n0_ := Aside0.mk (Qap (bw_) hb); have n1_ := Aside0.mk (hbox); have n2_ := Aside0.mk ((gs_ hg bw_ : w.heap.size ≤ gb101)); have n3_ := Aside0.mk ((gs_ hg bw_ : w.heap.size ≤ gb101)); clear HB; have HB := n0_; have BK101 := n1_; have GW101 := n2_; have GE101 := n3_; clear n0_ n1_ n2_ n3_; clear hb hbox hg) | ((with_reducible refine QaH (N := 3) rfl ?_); refine QaN ?hg (N := 3) ?hd (cs := #[.int .i64 a1_0, .int .i64 a1_1]) (t := 83) ?hr ?_; (case hd => rfl); (case hg => rfl); (case hr => first | (go_simp; done) | (go_simp; rfl)); intro gb102 hg w5 hbox hb; have n0_ := Aside0.mk (bb_ BK101 hb); have n1_ := Aside0.mk (Qap (bw_) hb); have n2_ := Aside0.mk (hbox); have n3_ := Aside0.mk ((gs_ hg bw_ : w.heap.size ≤ gb102)); have n4_ := Aside0.mk ((gs_ hg bw_ : w.heap.size ≤ gb102)); have n5_ := Aside0.mk ((nl_ hg BK101 : gb101 ≠ gb102)); have n6_ := Aside0.mk ((ng_ hg BK101 : gb102 ≠ gb101)); clear BK101; clear HB; have BK101 := n0_; have HB := n1_; have BK102 := n2_; have GW102 := n3_; have GE102 := n4_; have NB101_102 := n5_; have NB102_101 := n6_; clear n0_ n1_ n2_ n3_ n4_ n5_ n6_; clear hb hbox hg; have hnb6 := NB102_101.out; have hnc6 := NB101_102.out; obtain ⟨hcz7_0, hcz7_1, hfz7_0, hfz7_1⟩ := Qb2 BK102.out))
 (try simp only [Act.put, List.setIfInBounds_toArray, List.set_cons_zero, List.set_cons_succ])
 go_cut [8] (fun v8 wc => ∃ (kq : Nat) (x8_2 : Bool), v8 = .bool x8_2 ∧ Aside0 (Qaq.j0 kq a1_0 x8_2 l0_0 a1_0 a1_1 = some (r1, r2)) ∧ Aside0 (kq ≤ k) ∧ Aside0 (wc.heap[gb101]? = some (.cells #[(.slice A0_0 l0_0.length c0_0)] 25 (0, 0))) ∧ Aside0 (wc.heap[gb102]? = some (.cells #[.int .i64 a1_0, .int .i64 a1_1] 83 (0, 0))) ∧ Aside0 (Below w.heap.size w wc))
 case first =>
  have H := HC3.out
  clear HC3
  by_cases c8 : a1_0 = 1
  · rw [if_pos c8] at H
    have c8b0 : (a1_0 == 1) = true := beq_iff_eq.mpr c8
    have c8b1 : (a1_0 != 1) = false := bne_eq_false_iff_eq.mpr c8
    clear c8
    (first | rw [c8b0] | (simp only [Qbb, Qbd]; rw [c8b0]) | skip)
    have H' := Aside0.mk H
    clear H
    go_wp2
    go_meet
    case rel => exact ⟨_, ((a1_0 == 1)), (by first | rfl | (simp; done) | (simp [*]; done)), H', ⟨by first | omega | exact Nat.le_refl _⟩, ⟨by (refine kb_ ?_); exact BK101.out⟩, ⟨by (refine kb_ ?_); exact BK102.out⟩, ⟨bw_⟩⟩
  · rw [if_neg c8] at H
    have c8b0 : (a1_0 == 1) = false := beq_eq_false_iff_ne.mpr c8
    have c8b1 : (a1_0 != 1) = true := bne_iff_ne.mpr c8
    (first | rw [c8b0] | (simp only [Qbb, Qbd]; rw [c8b0]) | skip)
    by_cases c9 : a1_0 = 2
    · rw [if_pos c9] at H
      have c9b0 : (a1_0 == 2) = true := beq_iff_eq.mpr c9
      have c9b1 : (a1_0 != 2) = false := bne_eq_false_iff_eq.mpr c9
      clear c9
      have H' := Aside0.mk H
      clear H
      go_wp2
      go_meet
      case rel => exact ⟨_, ((a1_0 == 2)), (by first | rfl | (simp; done) | (simp [*]; done)), H', ⟨by first | omega | exact Nat.le_refl _⟩, ⟨by (refine kb_ ?_); exact BK101.out⟩, ⟨by (refine kb_ ?_); exact BK102.out⟩, ⟨bw_⟩⟩
    · rw [if_neg c9] at H
      have c9b0 : (a1_0 == 2) = false := beq_eq_false_iff_ne.mpr c9
      have c9b1 : (a1_0 != 2) = true := bne_iff_ne.mpr c9
      have H' := Aside0.mk H
      clear H
      go_wp2
      go_meet
      case rel => exact ⟨_, ((a1_0 == 11)), (by first | rfl | (simp; done) | (simp [*]; done)), H', ⟨by first | omega | exact Nat.le_refl _⟩, ⟨by (refine kb_ ?_); exact BK101.out⟩, ⟨by (refine kb_ ?_); exact BK102.out⟩, ⟨bw_⟩⟩
 case rest =>
  clear HC3
  try clear c1
  try clear p2
  try clear c6
  try clear c8
  try clear c8b0
  try clear c8b1
  try clear c9
  try clear c9b0
  try clear c9b1
  try clear hcz7_0
  try clear hcz7_1
  try clear hfz7_0
  try clear hfz7_1
  obtain ⟨kq, x8_2, rfl, HA, HJ2, BK101, BK102, HB⟩ := hcut
  cases kq with
  | zero => exact absurd HA.out (by simp [Qaq.j0])
  | succ kj2 =>
    have H := HA.out
    clear HA
    simp only [Qaq.j0] at H
    by_cases c10 : x8_2 = true
    · subst c10
      have H1 : (some (0, 1)) = some (r1, r2) := by rw [if_pos rfl] at H; exact H
      clear H
      have H := H1
      clear H1
      simp only [Option.some.injEq, Prod.mk.injEq] at H
      obtain ⟨rfl, rfl⟩ := H
      go_wp2
      go_ret2
      exact ⟨by first | rfl | (simp [Qan, Qao] <;> rfl) | (simp [*, Qan, Qao] <;> rfl), bw_⟩
    · replace c10 := Bool.eq_false_iff.mpr c10
      subst c10
      have H1 : (if a1_0 = 3 then (Qaq.j1 kj2 a1_0 (a1_0 == 3) l0_0 a1_0 a1_1) else (if a1_0 = 4 then (Qaq.j1 kj2 a1_0 (a1_0 == 4) l0_0 a1_0 a1_1) else (if a1_0 = 8 then (Qaq.j1 kj2 a1_0 (a1_0 == 8) l0_0 a1_0 a1_1) else (if a1_0 = 10 then (Qaq.j1 kj2 a1_0 (a1_0 == 10) l0_0 a1_0 a1_1) else (Qaq.j1 kj2 a1_0 (a1_0 == 16) l0_0 a1_0 a1_1))))) = some (r1, r2) := by rw [if_neg (show ¬ (false = true) by decide)] at H; exact H
      clear H
      have H := H1
      clear H1
      have HC11 := Aside0.mk H
      clear H
      go_upto_if 12 with (fail)
      go_cut [12] (fun v12 wc => ∃ (kq : Nat) (x12_10 : Bool), v12 = .bool x12_10 ∧ Aside0 (Qaq.j1 kq a1_0 x12_10 l0_0 a1_0 a1_1 = some (r1, r2)) ∧ Aside0 (kq ≤ kj2) ∧ Aside0 (wc.heap[gb101]? = some (.cells #[(.slice A0_0 l0_0.length c0_0)] 25 (0, 0))) ∧ Aside0 (wc.heap[gb102]? = some (.cells #[.int .i64 a1_0, .int .i64 a1_1] 83 (0, 0))) ∧ Aside0 (Below w.heap.size w wc))
      case first =>
       have H := HC11.out
       clear HC11
       by_cases c12 : a1_0 = 3
       · rw [if_pos c12] at H
         have c12b0 : (a1_0 == 3) = true := beq_iff_eq.mpr c12
         have c12b1 : (a1_0 != 3) = false := bne_eq_false_iff_eq.mpr c12
         clear c12
         (first | rw [c12b0] | (simp only [Qbb, Qbd]; rw [c12b0]) | skip)
         have H' := Aside0.mk H
         clear H
         go_wp2
         go_meet
         case rel => exact ⟨_, ((a1_0 == 3)), (by first | rfl | (simp; done) | (simp [*]; done)), H', ⟨by have := HJ2.out; first | omega | exact Nat.le_refl _⟩, ⟨by (refine kb_ ?_); exact BK101.out⟩, ⟨by (refine kb_ ?_); exact BK102.out⟩, ⟨bw_⟩⟩
       · rw [if_neg c12] at H
         have c12b0 : (a1_0 == 3) = false := beq_eq_false_iff_ne.mpr c12
         have c12b1 : (a1_0 != 3) = true := bne_iff_ne.mpr c12
         (first | rw [c12b0] | (simp only [Qbb, Qbd]; rw [c12b0]) | skip)
         by_cases c13 : a1_0 = 4
         · rw [if_pos c13] at H
           have c13b0 : (a1_0 == 4) = true := beq_iff_eq.mpr c13
           have c13b1 : (a1_0 != 4) = false := bne_eq_false_iff_eq.mpr c13
           clear c13
           have H' := Aside0.mk H
           clear H
           go_wp2
           go_meet
           case rel => exact ⟨_, ((a1_0 == 4)), (by first | rfl | (simp; done) | (simp [*]; done)), H', ⟨by have := HJ2.out; first | omega | exact Nat.le_refl _⟩, ⟨by (refine kb_ ?_); exact BK101.out⟩, ⟨by (refine kb_ ?_); exact BK102.out⟩, ⟨bw_⟩⟩
         · rw [if_neg c13] at H
           have c13b0 : (a1_0 == 4) = false := beq_eq_false_iff_ne.mpr c13
           have c13b1 : (a1_0 != 4) = true := bne_iff_ne.mpr c13
           by_cases c14 : a1_0 = 8
           · rw [if_pos c14] at H
             have c14b0 : (a1_0 == 8) = true := beq_iff_eq.mpr c14
             have c14b1 : (a1_0 != 8) = false := bne_eq_false_iff_eq.mpr c14
             clear c14
             have H' := Aside0.mk H
             clear H
             go_wp2
             go_meet
             case rel => exact ⟨_, ((a1_0 == 8)), (by first | rfl | (simp; done) | (simp [*]; done)), H', ⟨by have := HJ2.out; first | omega | exact Nat.le_refl _⟩, ⟨by (refine kb_ ?_); exact BK101.out⟩, ⟨by (refine kb_ ?_); exact BK102.out⟩, ⟨bw_⟩⟩
           · rw [if_neg c14] at H
             have c14b0 : (a1_0 == 8) = false := beq_eq_false_iff_ne.mpr c14
             have c14b1 : (a1_0 != 8) = true := bne_iff_ne.mpr c14
             by_cases c15 : a1_0 = 10
             · rw [if_pos c15] at H
               have c15b0 : (a1_0 == 10) = true := beq_iff_eq.mpr c15
               have c15b1 : (a1_0 != 10) = false := bne_eq_false_iff_eq.mpr c15
               clear c15
               have H' := Aside0.mk H
               clear H
               go_wp2
               go_meet
               case rel => exact ⟨_, ((a1_0 == 10)), (by first | rfl | (simp; done) | (simp [*]; done)), H', ⟨by have := HJ2.out; first | omega | exact Nat.le_refl _⟩, ⟨by (refine kb_ ?_); exact BK101.out⟩, ⟨by (refine kb_ ?_); exact BK102.out⟩, ⟨bw_⟩⟩
             · rw [if_neg c15] at H
               have c15b0 : (a1_0 == 10) = false := beq_eq_false_iff_ne.mpr c15
               have c15b1 : (a1_0 != 10) = true := bne_iff_ne.mpr c15
               have H' := Aside0.mk H
               clear H
               go_wp2
               go_meet
               case rel => exact ⟨_, ((a1_0 == 16)), (by first | rfl | (simp; done) | (simp [*]; done)), H', ⟨by have := HJ2.out; first | omega | exact Nat.le_refl _⟩, ⟨by (refine kb_ ?_); exact BK101.out⟩, ⟨by (refine kb_ ?_); exact BK102.out⟩, ⟨bw_⟩⟩
      case rest =>
       clear HC11
       try clear c1
       try clear p2
       try clear c6
       try clear c8
       try clear c8b0
       try clear c8b1
       try clear c9
       try clear c9b0
       try clear c9b1
       try clear c10
       try clear c12
       try clear c12b0
       try clear c12b1
       try clear c13
       try clear c13b0
       try clear c13b1
       try clear c14
       try clear c14b0
       try clear c14b1
       try clear c15
       try clear c15b0
       try clear c15b1
       try clear hcz7_0
       try clear hcz7_1
       try clear hfz7_0
       try clear hfz7_1
       try clear p2
       obtain ⟨kq, x12_10, rfl, HA, HJ10, BK101, BK102, HB⟩ := hcut
       cases kq with
       | zero => exact absurd HA.out (by simp [Qaq.j1])
       | succ kj10 =>
         have H := HA.out
         clear HA
         simp only [Qaq.j1] at H
         by_cases c16 : x12_10 = true
         · subst c16
           have H1 : (some (1, 0)) = some (r1, r2) := by rw [if_pos rfl] at H; exact H
           clear H
           have H := H1
           clear H1
           simp only [Option.some.injEq, Prod.mk.injEq] at H
           obtain ⟨rfl, rfl⟩ := H
           go_wp2
           go_ret2
           exact ⟨by first | rfl | (simp [Qan, Qao] <;> rfl) | (simp [*, Qan, Qao] <;> rfl), bw_⟩
         · replace c16 := Bool.eq_false_iff.mpr c16
           subst c16
           have H1 : (if a1_0 = 5 then (Qaq.j2 kj10 a1_0 (a1_0 == 5) l0_0 a1_0 a1_1) else (Qaq.j2 kj10 a1_0 (a1_0 == 6) l0_0 a1_0 a1_1)) = some (r1, r2) := by rw [if_neg (show ¬ (false = true) by decide)] at H; exact H
           clear H
           have H := H1
           clear H1
           have HC17 := Aside0.mk H
           clear H
           go_upto_if 18 with (fail)
           go_cut [18] (fun v18 wc => ∃ (kq : Nat) (x18_16 : Bool), v18 = .bool x18_16 ∧ Aside0 (Qaq.j2 kq a1_0 x18_16 l0_0 a1_0 a1_1 = some (r1, r2)) ∧ Aside0 (kq ≤ kj10) ∧ Aside0 (wc.heap[gb101]? = some (.cells #[(.slice A0_0 l0_0.length c0_0)] 25 (0, 0))) ∧ Aside0 (wc.heap[gb102]? = some (.cells #[.int .i64 a1_0, .int .i64 a1_1] 83 (0, 0))) ∧ Aside0 (Below w.heap.size w wc))
           case first =>
            have H := HC17.out
            clear HC17
            by_cases c18 : a1_0 = 5
            · rw [if_pos c18] at H
              have c18b0 : (a1_0 == 5) = true := beq_iff_eq.mpr c18
              have c18b1 : (a1_0 != 5) = false := bne_eq_false_iff_eq.mpr c18
              clear c18
              (first | rw [c18b0] | (simp only [Qbb, Qbd]; rw [c18b0]) | skip)
              have H' := Aside0.mk H
              clear H
              go_wp2
              go_meet
              case rel => exact ⟨_, ((a1_0 == 5)), (by first | rfl | (simp; done) | (simp [*]; done)), H', ⟨by have := HJ2.out; have := HJ10.out; first | omega | exact Nat.le_refl _⟩, ⟨by (refine kb_ ?_); exact BK101.out⟩, ⟨by (refine kb_ ?_); exact BK102.out⟩, ⟨bw_⟩⟩
            · rw [if_neg c18] at H
              have c18b0 : (a1_0 == 5) = false := beq_eq_false_iff_ne.mpr c18
              have c18b1 : (a1_0 != 5) = true := bne_iff_ne.mpr c18
              (first | rw [c18b0] | (simp only [Qbb, Qbd]; rw [c18b0]) | skip)
              have H' := Aside0.mk H
              clear H
              go_wp2
              go_meet
              case rel => exact ⟨_, ((a1_0 == 6)), (by first | rfl | (simp; done) | (simp [*]; done)), H', ⟨by have := HJ2.out; have := HJ10.out; first | omega | exact Nat.le_refl _⟩, ⟨by (refine kb_ ?_); exact BK101.out⟩, ⟨by (refine kb_ ?_); exact BK102.out⟩, ⟨bw_⟩⟩
           case rest =>
            clear HC17
            try clear c1
            try clear p2
            try clear c6
            try clear c8
            try clear c8b0
            try clear c8b1
            try clear c9
            try clear c9b0
            try clear c9b1
            try clear c10
            try clear c12
            try clear c12b0
            try clear c12b1
            try clear c13
            try clear c13b0
            try clear c13b1
            try clear c14
            try clear c14b0
            try clear c14b1
            try clear c15
            try clear c15b0
            try clear c15b1
            try clear c16
            try clear c18
            try clear c18b0
            try clear c18b1
            try clear hcz7_0
            try clear hcz7_1
            try clear hfz7_0
            try clear hfz7_1
            try clear p2
            obtain ⟨kq, x18_16, rfl, HA, HJ16, BK101, BK102, HB⟩ := hcut
            cases kq with
            | zero => exact absurd HA.out (by simp [Qaq.j2])
            | succ kj16 =>
              have H := HA.out
              clear HA
              simp only [Qaq.j2] at H
              by_cases c19 : x18_16 = true
              · subst c19
                have H1 : (some (2, 1)) = some (r1, r2) := by rw [if_pos rfl] at H; exact H
                clear H
                have H := H1
                clear H1
                simp only [Option.some.injEq, Prod.mk.injEq] at H
                obtain ⟨rfl, rfl⟩ := H
                go_wp2
                go_ret2
                exact ⟨by first | rfl | (simp [Qan, Qao] <;> rfl) | (simp [*, Qan, Qao] <;> rfl), bw_⟩
              · replace c19 := Bool.eq_false_iff.mpr c19
                subst c19
                have H1 : (if a1_0 = 12 then (Qaq.j3 kj16 a1_0 (a1_0 == 12) l0_0 a1_0 a1_1) else (if a1_0 = 13 then (Qaq.j3 kj16 a1_0 (a1_0 == 13) l0_0 a1_0 a1_1) else (if a1_0 = 17 then (Qaq.j3 kj16 a1_0 (a1_0 == 17) l0_0 a1_0 a1_1) else (Qaq.j3 kj16 a1_0 (a1_0 == 18) l0_0 a1_0 a1_1)))) = some (r1, r2) := by rw [if_neg (show ¬ (false = true) by decide)] at H; exact H
                clear H
                have H := H1
                clear H1
                have HC20 := Aside0.mk H
                clear H
                go_upto_if 21 with (fail)
                go_cut [21] (fun v21 wc => ∃ (kq : Nat) (x21_19 : Bool), v21 = .bool x21_19 ∧ Aside0 (Qaq.j3 kq a1_0 x21_19 l0_0 a1_0 a1_1 = some (r1, r2)) ∧ Aside0 (kq ≤ kj16) ∧ Aside0 (wc.heap[gb101]? = some (.cells #[(.slice A0_0 l0_0.length c0_0)] 25 (0, 0))) ∧ Aside0 (wc.heap[gb102]? = some (.cells #[.int .i64 a1_0, .int .i64 a1_1] 83 (0, 0))) ∧ Aside0 (Below w.heap.size w wc))
                case first =>
                 have H := HC20.out
                 clear HC20
                 by_cases c21 : a1_0 = 12
                 · rw [if_pos c21] at H
                   have c21b0 : (a1_0 == 12) = true := beq_iff_eq.mpr c21
                   have c21b1 : (a1_0 != 12) = false := bne_eq_false_iff_eq.mpr c21
                   clear c21
                   (first | rw [c21b0] | (simp only [Qbb, Qbd]; rw [c21b0]) | skip)
                   have H' := Aside0.mk H
                   clear H
                   go_wp2
                   go_meet
                   case rel => exact ⟨_, ((a1_0 == 12)), (by first | rfl | (simp; done) | (simp [*]; done)), H', ⟨by have := HJ2.out; have := HJ10.out; have := HJ16.out; first | omega | exact Nat.le_refl _⟩, ⟨by (refine kb_ ?_); exact BK101.out⟩, ⟨by (refine kb_ ?_); exact BK102.out⟩, ⟨bw_⟩⟩
                 · rw [if_neg c21] at H
                   have c21b0 : (a1_0 == 12) = false := beq_eq_false_iff_ne.mpr c21
                   have c21b1 : (a1_0 != 12) = true := bne_iff_ne.mpr c21
                   (first | rw [c21b0] | (simp only [Qbb, Qbd]; rw [c21b0]) | skip)
                   by_cases c22 : a1_0 = 13
                   · rw [if_pos c22] at H
                     have c22b0 : (a1_0 == 13) = true := beq_iff_eq.mpr c22
                     have c22b1 : (a1_0 != 13) = false := bne_eq_false_iff_eq.mpr c22
                     clear c22
                     have H' := Aside0.mk H
                     clear H
                     go_wp2
                     go_meet
                     case rel => exact ⟨_, ((a1_0 == 13)), (by first | rfl | (simp; done) | (simp [*]; done)), H', ⟨by have := HJ2.out; have := HJ10.out; have := HJ16.out; first | omega | exact Nat.le_refl _⟩, ⟨by (refine kb_ ?_); exact BK101.out⟩, ⟨by (refine kb_ ?_); exact BK102.out⟩, ⟨bw_⟩⟩
                   · rw [if_neg c22] at H
                     have c22b0 : (a1_0 == 13) = false := beq_eq_false_iff_ne.mpr c22
                     have c22b1 : (a1_0 != 13) = true := bne_iff_ne.mpr c22
                     by_cases c23 : a1_0 = 17
                     · rw [if_pos c23] at H
                       have c23b0 : (a1_0 == 17) = true := beq_iff_eq.mpr c23
                       have c23b1 : (a1_0 != 17) = false := bne_eq_false_iff_eq.mpr c23
                       clear c23
                       have H' := Aside0.mk H
                       clear H
                       go_wp2
                       go_meet
                       case rel => exact ⟨_, ((a1_0 == 17)), (by first | rfl | (simp; done) | (simp [*]; done)), H', ⟨by have := HJ2.out; have := HJ10.out; have := HJ16.out; first | omega | exact Nat.le_refl _⟩, ⟨by (refine kb_ ?_); exact BK101.out⟩, ⟨by (refine kb_ ?_); exact BK102.out⟩, ⟨bw_⟩⟩
                     · rw [if_neg c23] at H
                       have c23b0 : (a1_0 == 17) = false := beq_eq_false_iff_ne.mpr c23
                       have c23b1 : (a1_0 != 17) = true := bne_iff_ne.mpr c23
                       have H' := Aside0.mk H
                       clear H
                       go_wp2
                       go_meet
                       case rel => exact ⟨_, ((a1_0 == 18)), (by first | rfl | (simp; done) | (simp [*]; done)), H', ⟨by have := HJ2.out; have := HJ10.out; have := HJ16.out; first | omega | exact Nat.le_refl _⟩, ⟨by (refine kb_ ?_); exact BK101.out⟩, ⟨by (refine kb_ ?_); exact BK102.out⟩, ⟨bw_⟩⟩
                case rest =>
                 clear HC20
                 try clear c1
                 try clear c2
                 try clear p2
                 try clear c6
                 try clear c8
                 try clear c8b0
                 try clear c8b1
                 try clear c9
                 try clear c9b0
                 try clear c9b1
                 try clear c10
                 try clear c12
                 try clear c12b0
                 try clear c12b1
                 try clear c13
                 try clear c13b0
                 try clear c13b1
                 try clear c14
                 try clear c14b0
                 try clear c14b1
                 try clear c15
                 try clear c15b0
                 try clear c15b1
                 try clear c16
                 try clear c18
                 try clear c18b0
                 try clear c18b1
                 try clear c19
                 try clear c21
                 try clear c21b0
                 try clear c21b1
                 try clear c22
                 try clear c22b0
                 try clear c22b1
                 try clear c23
                 try clear c23b0
                 try clear c23b1
                 try clear hcz7_0
                 try clear hcz7_1
                 try clear hfz7_0
                 try clear hfz7_1
                 try clear p2
                 obtain ⟨kq, x21_19, rfl, HA, HJ19, BK101, BK102, HB⟩ := hcut
                 cases kq with
                 | zero => exact absurd HA.out (by simp [Qaq.j3])
                 | succ kj19 =>
                   have H := HA.out
                   clear HA
                   simp only [Qaq.j3] at H
                   by_cases c24 : x21_19 = true
                   · subst c24
                     have H1 : (some (1, 1)) = some (r1, r2) := by rw [if_pos rfl] at H; exact H
                     clear H
                     have H := H1
                     clear H1
                     simp only [Option.some.injEq, Prod.mk.injEq] at H
                     obtain ⟨rfl, rfl⟩ := H
                     go_wp2
                     go_ret2
                     exact ⟨by first | rfl | (simp [Qan, Qao] <;> rfl) | (simp [*, Qan, Qao] <;> rfl), bw_⟩
                   · replace c24 := Bool.eq_false_iff.mpr c24
                     subst c24
                     have H1 : (if a1_0 = 14 then (some (2, 0)) else (if a1_0 = 15 then (some (2, 1)) else (if a1_0 = 9 then ((QaM.f a1_1 0 (wrap64 ((l0_0.length : Int) - 1))).bind fun t103 => (if t103 = true then (if 0 ≤ a1_1 then (if a1_1 < (l0_0.length : Int) then (some ((Qaa l0_0 a1_1).f0, 1)) else (none)) else (none)) else (some (0, 0)))) else (some (0, 0))))) = some (r1, r2) := by rw [if_neg (show ¬ (false = true) by decide)] at H; exact H
                     clear H
                     have H := H1
                     clear H1
                     by_cases c25 : a1_0 = 14
                     · rw [if_pos c25] at H
                       have c25b0 : (a1_0 == 14) = true := beq_iff_eq.mpr c25
                       have c25b1 : (a1_0 != 14) = false := bne_eq_false_iff_eq.mpr c25
                       clear c25
                       simp only [Option.some.injEq, Prod.mk.injEq] at H
                       obtain ⟨rfl, rfl⟩ := H
                       go_wp2
                       go_ret2
                       exact ⟨by first | rfl | (simp [Qan, Qao] <;> rfl) | (simp [*, Qan, Qao] <;> rfl), bw_⟩
                     · rw [if_neg c25] at H
                       have c25b0 : (a1_0 == 14) = false := beq_eq_false_iff_ne.mpr c25
                       have c25b1 : (a1_0 != 14) = true := bne_iff_ne.mpr c25
                       by_cases c26 : a1_0 = 15
                       · rw [if_pos c26] at H
                         have c26b0 : (a1_0 == 15) = true := beq_iff_eq.mpr c26
                         have c26b1 : (a1_0 != 15) = false := bne_eq_false_iff_eq.mpr c26
                         clear c26
                         simp only [Option.some.injEq, Prod.mk.injEq] at H
                         obtain ⟨rfl, rfl⟩ := H
                         go_wp2
                         go_ret2
                         exact ⟨by first | rfl | (simp [Qan, Qao] <;> rfl) | (simp [*, Qan, Qao] <;> rfl), bw_⟩
                       · rw [if_neg c26] at H
                         have c26b0 : (a1_0 == 15) = false := beq_eq_false_iff_ne.mpr c26
                         have c26b1 : (a1_0 != 15) = true := bne_iff_ne.mpr c26
                         by_cases c27 : a1_0 = 9
                         · rw [if_pos c27] at H
                           have c27b0 : (a1_0 == 9) = true := beq_iff_eq.mpr c27
                           have c27b1 : (a1_0 != 9) = false := bne_eq_false_iff_eq.mpr c27
                           clear c27
                           replace H := Option.bind_eq_some_iff.mp H
                           obtain ⟨t103, A280, H⟩ := H
                           replace H : (if t103 = true then (if 0 ≤ a1_1 then (if a1_1 < (l0_0.length : Int) then (some ((Qaa l0_0 a1_1).f0, 1)) else (none)) else (none)) else (some (0, 0))) = some (r1, r2) := H
                           have A28 := Aside0.mk A280
                           clear A280
                           by_cases c29 : t103 = true
                           · subst c29
                             have H1 : (if 0 ≤ a1_1 then (if a1_1 < (l0_0.length : Int) then (some ((Qaa l0_0 a1_1).f0, 1)) else (none)) else (none)) = some (r1, r2) := by rw [if_pos rfl] at H; exact H
                             clear H
                             have H := H1
                             clear H1
                             by_cases c30 : 0 ≤ a1_1
                             · rw [if_pos c30] at H
                               have c30b0 : decide (0 ≤ a1_1) = true := decide_eq_true c30
                               clear c30
                               by_cases c31 : a1_1 < (l0_0.length : Int)
                               · rw [if_pos c31] at H
                                 have c31b0 : decide (a1_1 < (l0_0.length : Int)) = true := decide_eq_true c31
                                 clear c31
                                 simp only [Option.some.injEq, Prod.mk.injEq] at H
                                 obtain ⟨rfl, rfl⟩ := H
                                 have hnb32 := NB102_101.out
                                 have hnc32 := NB101_102.out
                                 have hcz33_0 : wc.cell? ⟨gb102, 0, none⟩ = some (.int .i64 a1_0) := (Qaf BK102.out 0).trans rfl
                                 have hcz33_1 : wc.cell? ⟨gb102, 1, none⟩ = some (.int .i64 a1_1) := (Qaf BK102.out 1).trans rfl
                                 have hfz33_0 := Qaj BK102.out 0
                                 have hfz33_1 := Qaj BK102.out 1
                                 have hcz34_0 : wc.cell? ⟨gb101, 0, none⟩ = some (.slice A0_0 l0_0.length c0_0) := (Qaf BK101.out 0).trans rfl
                                 have hfz34_0 := Qaj BK101.out 0
                                 go_wp2_with (first | ((with_reducible refine Qax (f := 58) rfl ?_); refine QaX (some 38) rfl rfl Try.func58 (by kernel_rfl) rfl #[.int .i64 a1_1, .int .i64 0, .int .i64 (wrap64 ((l0_0.length : Int) - 1))] rfl (by (try simp only [List.map_toArray, List.map_cons, List.map_nil]); first | done | rfl | (simp only [List.length_drop, List.length_take]; rfl)) ?_; (with_reducible refine (QaM.calls a1_1 0 (wrap64 ((l0_0.length : Int) - 1)) true _ A28.out).mono ?_); rintro e w' ⟨rfl, ⟨nd, rfl⟩⟩; refine ⟨_, rfl, ?_⟩; have p104 : 0 ≤ (a1_1 : Int) := of_decide_eq_true (by first | (with_reducible assumption) | assumption); have q104 : a1_1 < (l0_0.length : Int) := of_decide_eq_true (by first | (with_reducible assumption) | assumption); obtain ⟨ad104, A104_2, c104_2, e104, hx104_0, hx104_1, hx104_2, hl104_2, hi104_2⟩ := Qba HR0_0.out a1_1 p104 q104; cases e104; replace hx104_0 := (HB.out.cell (World.block_lt_of_cell? w _ hx104_0)).trans hx104_0; replace hx104_1 := (HB.out.cell (World.block_lt_of_cell? w _ hx104_1)).trans hx104_1; replace hx104_2 := (HB.out.cell (World.block_lt_of_cell? w _ hx104_2)).trans hx104_2; have HR104_2 := Aside0.mk hi104_2; have HC104_2 := Aside0.mk hl104_2; clear hi104_2 hl104_2; replace p104 := eq_true p104; replace q104 := eq_true q104))
                                 go_ret2
                                 exact ⟨by first | rfl | (simp [Qan, Qao] <;> rfl) | (simp [*, Qan, Qao] <;> rfl), bw_⟩
                               · rw [if_neg c31] at H
                                 exact absurd H (by simp)
                             · rw [if_neg c30] at H
                               exact absurd H (by simp)
                           · replace c29 := Bool.eq_false_iff.mpr c29
                             subst c29
                             have H1 : (some (0, 0)) = some (r1, r2) := by rw [if_neg (show ¬ (false = true) by decide)] at H; exact H
                             clear H
                             have H := H1
                             clear H1
                             simp only [Option.some.injEq, Prod.mk.injEq] at H
                             obtain ⟨rfl, rfl⟩ := H
                             have hnb35 := NB102_101.out
                             have hnc35 := NB101_102.out
                             have hcz36_0 : wc.cell? ⟨gb102, 0, none⟩ = some (.int .i64 a1_0) := (Qaf BK102.out 0).trans rfl
                             have hcz36_1 : wc.cell? ⟨gb102, 1, none⟩ = some (.int .i64 a1_1) := (Qaf BK102.out 1).trans rfl
                             have hfz36_0 := Qaj BK102.out 0
                             have hfz36_1 := Qaj BK102.out 1
                             have hcz37_0 : wc.cell? ⟨gb101, 0, none⟩ = some (.slice A0_0 l0_0.length c0_0) := (Qaf BK101.out 0).trans rfl
                             have hfz37_0 := Qaj BK101.out 0
                             go_wp2_with (first | ((with_reducible refine Qax (f := 58) rfl ?_); refine QaX (some 38) rfl rfl Try.func58 (by kernel_rfl) rfl #[.int .i64 a1_1, .int .i64 0, .int .i64 (wrap64 ((l0_0.length : Int) - 1))] rfl (by (try simp only [List.map_toArray, List.map_cons, List.map_nil]); first | done | rfl | (simp only [List.length_drop, List.length_take]; rfl)) ?_; (with_reducible refine (QaM.calls a1_1 0 (wrap64 ((l0_0.length : Int) - 1)) false _ A28.out).mono ?_); rintro e w' ⟨rfl, ⟨nd, rfl⟩⟩; refine ⟨_, rfl, ?_⟩))
                             go_ret2
                             exact ⟨by first | rfl | (simp [Qan, Qao] <;> rfl) | (simp [*, Qan, Qao] <;> rfl), bw_⟩
                         · rw [if_neg c27] at H
                           have c27b0 : (a1_0 == 9) = false := beq_eq_false_iff_ne.mpr c27
                           have c27b1 : (a1_0 != 9) = true := bne_iff_ne.mpr c27
                           simp only [Option.some.injEq, Prod.mk.injEq] at H
                           obtain ⟨rfl, rfl⟩ := H
                           go_wp2
                           go_ret2
                           exact ⟨by first | rfl | (simp [Qan, Qao] <;> rfl) | (simp [*, Qan, Qao] <;> rfl), bw_⟩
end Go.Proofs.Ytabcijheemjplaa.G
namespace Go.Proofs.Ytabcijheemjplaa.G
open Go.RowKit Go.Proofs.YtabcijheemjplaaW.PrintWords Go.Proofs.YtabcijheemjplaaW.PrintLast Go.Proofs.YtabcijheemjplaaW.PrintMore
attribute [local go_sem] QaQ QaR Qa3 Qa4 QaJ QaK QaS QaT
set_option linter.unusedVariables false
set_option linter.unusedSimpArgs false
def Qbg.f (a0_0 : Int) (a0_1 : Int) (l0_2 : List (Qac)) (a1 : Int) : Option (List Int) := if 0 ≤ a1 then (if a1 < (l0_2.length : Int) then (if ((Qah l0_2 a1).f0) = 7 then (some (([(Qah l0_2 a1).f1] : List Int))) else (if ((Qah l0_2 a1).f0) = 8 then (some (([wrap64 (a1 + 1), (Qah l0_2 a1).f1] : List Int))) else (if ((Qah l0_2 a1).f0) = 10 then (some ([] : List Int)) else (some (([wrap64 (a1 + 1)] : List Int)))))) else (none)) else (none)
set_option maxHeartbeats 8000000 in
set_option maxRecDepth 100000 in
theorem Qbg.calls (a0_0 : Int) (a0_1 : Int) (A0_2 : Option Addr) (c0_2 : Nat) (l0_2 : List (Qac)) (a1 : Int) (r : List Int) (w : World) (hr0_2 : Kd.C QaB w A0_2 l0_2.length l0_2) (hc0_2 : l0_2.length ≤ c0_2) (h : Qbg.f a0_0 a0_1 l0_2 a1 = some r) :
 Calls Try.prog 105 #[.agg #[.int .i64 a0_0, .int .i64 a0_1, .slice A0_2 l0_2.length c0_2], .int .i64 a1] w fun e w' => ∃ v0_ : Value, e = .returned (v0_) ∧ Kd.R (Kd.int .i64) 3 w' w.heap.size (fun _ => True) v0_ r ∧ Below w.heap.size w w' := by
 have hu34 := Try.underlying34
 have hu83 := Try.underlying83
 have HR0_2 := Aside0.mk hr0_2
 have HC0_2 := Aside0.mk hc0_2
 clear hr0_2 hc0_2
 have HB := Aside0.mk (Below.refl w.heap.size w)
 have H : (if 0 ≤ a1 then (if a1 < (l0_2.length : Int) then (if ((Qah l0_2 a1).f0) = 7 then (some (([(Qah l0_2 a1).f1] : List Int))) else (if ((Qah l0_2 a1).f0) = 8 then (some (([wrap64 (a1 + 1), (Qah l0_2 a1).f1] : List Int))) else (if ((Qah l0_2 a1).f0) = 10 then (some ([] : List Int)) else (some (([wrap64 (a1 + 1)] : List Int)))))) else (none)) else (none)) = some r := h
 clear h
 by_cases c3 : 0 ≤ a1
 · rw [if_pos c3] at H
   have c3b0 : decide (0 ≤ a1) = true := decide_eq_true c3
   clear c3
   by_cases c4 : a1 < (l0_2.length : Int)
   · rw [if_pos c4] at H
     have c4b0 : decide (a1 < (l0_2.length : Int)) = true := decide_eq_true c4
     clear c4
     by_cases c5 : ((Qah l0_2 a1).f0) = 7
     · rw [if_pos c5] at H
       have c5b0 : (((Qah l0_2 a1).f0) == 7) = true := beq_iff_eq.mpr c5
       have c5b1 : (((Qah l0_2 a1).f0) != 7) = false := bne_eq_false_iff_eq.mpr c5
       clear c5
       obtain ⟨y104, hy104⟩ : ∃ y_ : List Int, y_ = (([(Qah l0_2 a1).f1] : List Int)) := ⟨_, rfl⟩
       replace H : (some y104) = some r := by first | (rw [hy104]; with_reducible exact H) | (have H2_ := (Option.bind_some _ _).symm.trans H; rw [hy104]; with_reducible exact H2_) | (have H2_ := (Option.bind_some _ _).symm.trans H; with_reducible exact H2_) | with_reducible exact H | (rw [hy104]; exact H) | exact H
       have Ny104 := Aside0.mk hy104
       clear hy104
       obtain rfl := Option.some.inj H
       go_enter Try.func105, Try.ntmps105
       go_wp2_with (first | ((with_reducible refine QaH (N := 2) rfl ?_); refine QaN ?hg (N := 2) ?hd (cs := #[.int .i64 a0_0, .int .i64 a0_1, .slice A0_2 l0_2.length c0_2]) (t := 34) ?hr ?_; (case hd => rfl); (case hg => rfl); (case hr => first | (go_simp; done) | (go_simp; rfl)); intro gb101 hg w6 hbox hb; have n0_ := Aside0.mk (Qap (bw_) hb); have n1_ := Aside0.mk (hbox); have n2_ := Aside0.mk ((gs_ hg bw_ : w.heap.size ≤ gb101)); have n3_ := Aside0.mk ((gs_ hg bw_ : w.heap.size ≤ gb101)); clear HB; have HB := n0_; have BK101 := n1_; have GW101 := n2_; have GE101 := n3_; clear n0_ n1_ n2_ n3_; clear hb hbox hg; obtain ⟨hcz7_0, hcz7_1, hcz7_2, hfz7_0, hfz7_1, hfz7_2⟩ := Qb_ BK101.out; have p102 : 0 ≤ (a1 : Int) := of_decide_eq_true (by first | (with_reducible assumption) | assumption); have q102 : a1 < (l0_2.length : Int) := of_decide_eq_true (by first | (with_reducible assumption) | assumption); obtain ⟨ad102, e102, hx102_0, hx102_1⟩ := QbJ HR0_2.out a1 p102 q102; cases e102; replace hx102_0 := (HB.out.cell (World.block_lt_of_cell? w _ hx102_0)).trans hx102_0; replace hx102_1 := (HB.out.cell (World.block_lt_of_cell? w _ hx102_1)).trans hx102_1; replace p102 := eq_true p102; replace q102 := eq_true q102) | ((with_reducible refine QaH (N := 5) rfl ?_); refine QaN ?hg (N := 5) ?hd (cs := #[.int .i64 0, .int .i64 0]) (t := 83) ?hr ?_; (case hd => rfl); (case hg => rfl); (case hr => first | (go_simp; done) | (go_simp; rfl)); intro gb103 hg w8 hbox hb; have n0_ := Aside0.mk (bb_ BK101 hb); have n1_ := Aside0.mk (Qap (bw_) hb); have n2_ := Aside0.mk (hbox); have n3_ := Aside0.mk ((gs_ hg bw_ : w.heap.size ≤ gb103)); have n4_ := Aside0.mk ((gs_ hg bw_ : w.heap.size ≤ gb103)); have n5_ := Aside0.mk ((nl_ hg BK101 : gb101 ≠ gb103)); have n6_ := Aside0.mk ((ng_ hg BK101 : gb103 ≠ gb101)); clear BK101; clear HB; have BK101 := n0_; have HB := n1_; have BK103 := n2_; have GW103 := n3_; have GE103 := n4_; have NB101_103 := n5_; have NB103_101 := n6_; clear n0_ n1_ n2_ n3_ n4_ n5_ n6_; clear hb hbox hg; have hnb9 := NB103_101.out; have hnc9 := NB101_103.out; obtain ⟨hcz10_0, hcz10_1, hfz10_0, hfz10_1⟩ := Qb2 BK103.out) | ((with_reducible refine QaH (N := 17) rfl ?_); refine Kd.R_lit (Kd.int .i64) _ 3 ?hg (N := 17) ?hd (xs := ([(Qah l0_2 a1).f1] : List Int)) (inner := [.int .i64 ((Qah l0_2 a1).f1)]) (ok := fun _ => True) (okp := fun _ => True) ?hr ?hp (fun _ hk => hk) trivial (Below.refl _ _) (Nat.le_refl _) (by simp) ?_; (case hd => rfl); (case hg => rfl); (case hr => first | (go_simp; done) | (go_simp; rfl)); (case hp => exact (Qa9.one (show Kd.M (Kd.int .i64) _ _ _ ((Qah l0_2 a1).f1) [.int .i64 ((Qah l0_2 a1).f1)] from rfl) (Qa9.none _ _))); intro v105 w11 ho12 hb hg_ hnew_; clear hg_ hnew_; (first | rw [← Ny104.out] at ho12 | (simp only [Int.reduceToNat] at ho12; rw [← Ny104.out] at ho12)); have n0_ := Aside0.mk (Kd.R_lower ho12 (QaY (bw_))); have n1_ := Aside0.mk (QbW (g := gb101) (o := .cells #[.int .i64 a0_0, .int .i64 a0_1, .slice (some ad102) l0_2.length c0_2] 34 (0, 0)) (by (refine kb_ ?_); refine Qbe ?_ NB101_103.out _; (refine kb_ ?_); refine Qbe ?_ NB101_103.out _; (refine kb_ ?_); exact BK101.out) hb); have n2_ := Aside0.mk (QbW (g := gb103) (o := .cells #[.int .i64 ((Qah l0_2 a1).f0), .int .i64 ((Qah l0_2 a1).f1)] 83 (0, 0)) (by (refine kb_ ?_); refine Qbc (cs := #[.int .i64 ((Qah l0_2 a1).f0), .int .i64 0]) ?_ 1 _ rfl; (refine kb_ ?_); refine Qbc (cs := #[.int .i64 0, .int .i64 0]) ?_ 0 _ rfl; (refine kb_ ?_); exact BK103.out) hb); have n3_ := Aside0.mk (Qap (bw_) hb); clear BK101; clear BK103; clear HB; have HO106 := n0_; have BK101 := n1_; have BK103 := n2_; have HB := n3_; clear n0_ n1_ n2_ n3_; clear hb ho12))
       go_ret
       exact ⟨_, by first | rfl | (simp [Qan, Qao] <;> rfl) | (simp [*, Qan, Qao] <;> rfl), by (refine QaP ?_); exact HO106.out, bw_⟩
     · rw [if_neg c5] at H
       have c5b0 : (((Qah l0_2 a1).f0) == 7) = false := beq_eq_false_iff_ne.mpr c5
       have c5b1 : (((Qah l0_2 a1).f0) != 7) = true := bne_iff_ne.mpr c5
       by_cases c13 : ((Qah l0_2 a1).f0) = 8
       · rw [if_pos c13] at H
         have c13b0 : (((Qah l0_2 a1).f0) == 8) = true := beq_iff_eq.mpr c13
         have c13b1 : (((Qah l0_2 a1).f0) != 8) = false := bne_eq_false_iff_eq.mpr c13
         clear c13
         obtain ⟨y107, hy107⟩ : ∃ y_ : List Int, y_ = (([wrap64 (a1 + 1), (Qah l0_2 a1).f1] : List Int)) := ⟨_, rfl⟩
         replace H : (some y107) = some r := by first | (rw [hy107]; with_reducible exact H) | (have H2_ := (Option.bind_some _ _).symm.trans H; rw [hy107]; with_reducible exact H2_) | (have H2_ := (Option.bind_some _ _).symm.trans H; with_reducible exact H2_) | with_reducible exact H | (rw [hy107]; exact H) | exact H
         have Ny107 := Aside0.mk hy107
         clear hy107
         obtain rfl := Option.some.inj H
         go_enter Try.func105, Try.ntmps105
         go_wp2_with (first | ((with_reducible refine QaH (N := 2) rfl ?_); refine QaN ?hg (N := 2) ?hd (cs := #[.int .i64 a0_0, .int .i64 a0_1, .slice A0_2 l0_2.length c0_2]) (t := 34) ?hr ?_; (case hd => rfl); (case hg => rfl); (case hr => first | (go_simp; done) | (go_simp; rfl)); intro gb101 hg w14 hbox hb; have n0_ := Aside0.mk (Qap (bw_) hb); have n1_ := Aside0.mk (hbox); have n2_ := Aside0.mk ((gs_ hg bw_ : w.heap.size ≤ gb101)); have n3_ := Aside0.mk ((gs_ hg bw_ : w.heap.size ≤ gb101)); clear HB; have HB := n0_; have BK101 := n1_; have GW101 := n2_; have GE101 := n3_; clear n0_ n1_ n2_ n3_; clear hb hbox hg; obtain ⟨hcz15_0, hcz15_1, hcz15_2, hfz15_0, hfz15_1, hfz15_2⟩ := Qb_ BK101.out; have p102 : 0 ≤ (a1 : Int) := of_decide_eq_true (by first | (with_reducible assumption) | assumption); have q102 : a1 < (l0_2.length : Int) := of_decide_eq_true (by first | (with_reducible assumption) | assumption); obtain ⟨ad102, e102, hx102_0, hx102_1⟩ := QbJ HR0_2.out a1 p102 q102; cases e102; replace hx102_0 := (HB.out.cell (World.block_lt_of_cell? w _ hx102_0)).trans hx102_0; replace hx102_1 := (HB.out.cell (World.block_lt_of_cell? w _ hx102_1)).trans hx102_1; replace p102 := eq_true p102; replace q102 := eq_true q102) | ((with_reducible refine QaH (N := 5) rfl ?_); refine QaN ?hg (N := 5) ?hd (cs := #[.int .i64 0, .int .i64 0]) (t := 83) ?hr ?_; (case hd => rfl); (case hg => rfl); (case hr => first | (go_simp; done) | (go_simp; rfl)); intro gb103 hg w16 hbox hb; have n0_ := Aside0.mk (bb_ BK101 hb); have n1_ := Aside0.mk (Qap (bw_) hb); have n2_ := Aside0.mk (hbox); have n3_ := Aside0.mk ((gs_ hg bw_ : w.heap.size ≤ gb103)); have n4_ := Aside0.mk ((gs_ hg bw_ : w.heap.size ≤ gb103)); have n5_ := Aside0.mk ((nl_ hg BK101 : gb101 ≠ gb103)); have n6_ := Aside0.mk ((ng_ hg BK101 : gb103 ≠ gb101)); clear BK101; clear HB; have BK101 := n0_; have HB := n1_; have BK103 := n2_; have GW103 := n3_; have GE103 := n4_; have NB101_103 := n5_; have NB103_101 := n6_; clear n0_ n1_ n2_ n3_ n4_ n5_ n6_; clear hb hbox hg; have hnb17 := NB103_101.out; have hnc17 := NB101_103.out; obtain ⟨hcz18_0, hcz18_1, hfz18_0, hfz18_1⟩ := Qb2 BK103.out) | ((with_reducible refine QaH (N := 24) rfl ?_); refine Kd.R_lit (Kd.int .i64) _ 3 ?hg (N := 24) ?hd (xs := ([wrap64 (a1 + 1), (Qah l0_2 a1).f1] : List Int)) (inner := [.int .i64 (wrap64 (a1 + 1)), .int .i64 ((Qah l0_2 a1).f1)]) (ok := fun _ => True) (okp := fun _ => True) ?hr ?hp (fun _ hk => hk) trivial (Below.refl _ _) (Nat.le_refl _) (by simp) ?_; (case hd => rfl); (case hg => rfl); (case hr => first | (go_simp; done) | (go_simp; rfl)); (case hp => exact (Qa9.one (show Kd.M (Kd.int .i64) _ _ _ (wrap64 (a1 + 1)) [.int .i64 (wrap64 (a1 + 1))] from rfl) (Qa9.one (show Kd.M (Kd.int .i64) _ _ _ ((Qah l0_2 a1).f1) [.int .i64 ((Qah l0_2 a1).f1)] from rfl) (Qa9.none _ _)))); intro v108 w19 ho20 hb hg_ hnew_; clear hg_ hnew_; (first | rw [← Ny107.out] at ho20 | (simp only [Int.reduceToNat] at ho20; rw [← Ny107.out] at ho20)); have n0_ := Aside0.mk (Kd.R_lower ho20 (QaY (bw_))); have n1_ := Aside0.mk (QbW (g := gb101) (o := .cells #[.int .i64 a0_0, .int .i64 a0_1, .slice (some ad102) l0_2.length c0_2] 34 (0, 0)) (by (refine kb_ ?_); refine Qbe ?_ NB101_103.out _; (refine kb_ ?_); refine Qbe ?_ NB101_103.out _; (refine kb_ ?_); exact BK101.out) hb); have n2_ := Aside0.mk (QbW (g := gb103) (o := .cells #[.int .i64 ((Qah l0_2 a1).f0), .int .i64 ((Qah l0_2 a1).f1)] 83 (0, 0)) (by (refine kb_ ?_); refine Qbc (cs := #[.int .i64 ((Qah l0_2 a1).f0), .int .i64 0]) ?_ 1 _ rfl; (refine kb_ ?_); refine Qbc (cs := #[.int .i64 0, .int .i64 0]) ?_ 0 _ rfl; (refine kb_ ?_); exact BK103.out) hb); have n3_ := Aside0.mk (Qap (bw_) hb); clear BK101; clear BK103; clear HB; have HO109 := n0_; have BK101 := n1_; have BK103 := n2_; have HB := n3_; clear n0_ n1_ n2_ n3_; clear hb ho20))
         go_ret
         exact ⟨_, by first | rfl | (simp [Qan, Qao] <;> rfl) | (simp [*, Qan, Qao] <;> rfl), by (refine QaP ?_); exact HO109.out, bw_⟩
       · rw [if_neg c13] at H
         have c13b0 : (((Qah l0_2 a1).f0) == 8) = false := beq_eq_false_iff_ne.mpr c13
         have c13b1 : (((Qah l0_2 a1).f0) != 8) = true := bne_iff_ne.mpr c13
         by_cases c21 : ((Qah l0_2 a1).f0) = 10
         · rw [if_pos c21] at H
           have c21b0 : (((Qah l0_2 a1).f0) == 10) = true := beq_iff_eq.mpr c21
           have c21b1 : (((Qah l0_2 a1).f0) != 10) = false := bne_eq_false_iff_eq.mpr c21
           clear c21
           obtain rfl := Option.some.inj H
           go_enter Try.func105, Try.ntmps105
           go_wp2_with (first | ((with_reducible refine QaH (N := 2) rfl ?_); refine QaN ?hg (N := 2) ?hd (cs := #[.int .i64 a0_0, .int .i64 a0_1, .slice A0_2 l0_2.length c0_2]) (t := 34) ?hr ?_; (case hd => rfl); (case hg => rfl); (case hr => first | (go_simp; done) | (go_simp; rfl)); intro gb101 hg w22 hbox hb; have n0_ := Aside0.mk (Qap (bw_) hb); have n1_ := Aside0.mk (hbox); have n2_ := Aside0.mk ((gs_ hg bw_ : w.heap.size ≤ gb101)); have n3_ := Aside0.mk ((gs_ hg bw_ : w.heap.size ≤ gb101)); clear HB; have HB := n0_; have BK101 := n1_; have GW101 := n2_; have GE101 := n3_; clear n0_ n1_ n2_ n3_; clear hb hbox hg; obtain ⟨hcz23_0, hcz23_1, hcz23_2, hfz23_0, hfz23_1, hfz23_2⟩ := Qb_ BK101.out; have p102 : 0 ≤ (a1 : Int) := of_decide_eq_true (by first | (with_reducible assumption) | assumption); have q102 : a1 < (l0_2.length : Int) := of_decide_eq_true (by first | (with_reducible assumption) | assumption); obtain ⟨ad102, e102, hx102_0, hx102_1⟩ := QbJ HR0_2.out a1 p102 q102; cases e102; replace hx102_0 := (HB.out.cell (World.block_lt_of_cell? w _ hx102_0)).trans hx102_0; replace hx102_1 := (HB.out.cell (World.block_lt_of_cell? w _ hx102_1)).trans hx102_1; replace p102 := eq_true p102; replace q102 := eq_true q102) | ((with_reducible refine QaH (N := 5) rfl ?_); refine QaN ?hg (N := 5) ?hd (cs := #[.int .i64 0, .int .i64 0]) (t := 83) ?hr ?_; (case hd => rfl); (case hg => rfl); (case hr => first | (go_simp; done) | (go_simp; rfl)); intro gb103 hg w24 hbox hb; have n0_ := Aside0.mk (bb_ BK101 hb); have n1_ := Aside0.mk (Qap (bw_) hb); have n2_ := Aside0.mk (hbox); have n3_ := Aside0.mk ((gs_ hg bw_ : w.heap.size ≤ gb103)); have n4_ := Aside0.mk ((gs_ hg bw_ : w.heap.size ≤ gb103)); have n5_ := Aside0.mk ((nl_ hg BK101 : gb101 ≠ gb103)); have n6_ := Aside0.mk ((ng_ hg BK101 : gb103 ≠ gb101)); clear BK101; clear HB; have BK101 := n0_; have HB := n1_; have BK103 := n2_; have GW103 := n3_; have GE103 := n4_; have NB101_103 := n5_; have NB103_101 := n6_; clear n0_ n1_ n2_ n3_ n4_ n5_ n6_; clear hb hbox hg; have hnb25 := NB103_101.out; have hnc25 := NB101_103.out; obtain ⟨hcz26_0, hcz26_1, hfz26_0, hfz26_1⟩ := Qb2 BK103.out))
           go_ret
           exact ⟨_, by first | rfl | (simp [Qan, Qao] <;> rfl) | (simp [*, Qan, Qao] <;> rfl), by first | exact Kd.R_nil _ _ _ _ _ | exact Kd.N_nil _ _ _ _ _ | exact Kd.V_nil _ _ _ _ _ | exact Kd.Q_nil _ _ _ _ _ | exact Kd.S_nil _ _ _ _ _, bw_⟩
         · rw [if_neg c21] at H
           have c21b0 : (((Qah l0_2 a1).f0) == 10) = false := beq_eq_false_iff_ne.mpr c21
           have c21b1 : (((Qah l0_2 a1).f0) != 10) = true := bne_iff_ne.mpr c21
           obtain ⟨y110, hy110⟩ : ∃ y_ : List Int, y_ = (([wrap64 (a1 + 1)] : List Int)) := ⟨_, rfl⟩
           replace H : (some y110) = some r := by first | (rw [hy110]; with_reducible exact H) | (have H2_ := (Option.bind_some _ _).symm.trans H; rw [hy110]; with_reducible exact H2_) | (have H2_ := (Option.bind_some _ _).symm.trans H; with_reducible exact H2_) | with_reducible exact H | (rw [hy110]; exact H) | exact H
           have Ny110 := Aside0.mk hy110
           clear hy110
           obtain rfl := Option.some.inj H
           go_enter Try.func105, Try.ntmps105
           go_wp2_with (first | ((with_reducible refine QaH (N := 2) rfl ?_); refine QaN ?hg (N := 2) ?hd (cs := #[.int .i64 a0_0, .int .i64 a0_1, .slice A0_2 l0_2.length c0_2]) (t := 34) ?hr ?_; (case hd => rfl); (case hg => rfl); (case hr => first | (go_simp; done) | (go_simp; rfl)); intro gb101 hg w27 hbox hb; have n0_ := Aside0.mk (Qap (bw_) hb); have n1_ := Aside0.mk (hbox); have n2_ := Aside0.mk ((gs_ hg bw_ : w.heap.size ≤ gb101)); have n3_ := Aside0.mk ((gs_ hg bw_ : w.heap.size ≤ gb101)); clear HB; have HB := n0_; have BK101 := n1_; have GW101 := n2_; have GE101 := n3_; clear n0_ n1_ n2_ n3_; clear hb hbox hg; obtain ⟨hcz28_0, hcz28_1, hcz28_2, hfz28_0, hfz28_1, hfz28_2⟩ := Qb_ BK101.out; have p102 : 0 ≤ (a1 : Int) := of_decide_eq_true (by first | (with_reducible assumption) | assumption); have q102 : a1 < (l0_2.length : Int) := of_decide_eq_true (by first | (with_reducible assumption) | assumption); obtain ⟨ad102, e102, hx102_0, hx102_1⟩ := QbJ HR0_2.out a1 p102 q102; cases e102; replace hx102_0 := (HB.out.cell (World.block_lt_of_cell? w _ hx102_0)).trans hx102_0; replace hx102_1 := (HB.out.cell (World.block_lt_of_cell? w _ hx102_1)).trans hx102_1; replace p102 := eq_true p102; replace q102 := eq_true q102) | ((with_reducible refine QaH (N := 5) rfl ?_); refine QaN ?hg (N := 5) ?hd (cs := #[.int .i64 0, .int .i64 0]) (t := 83) ?hr ?_; (case hd => rfl); (case hg => rfl); (case hr => first | (go_simp; done) | (go_simp; rfl)); intro gb103 hg w29 hbox hb; have n0_ := Aside0.mk (bb_ BK101 hb); have n1_ := Aside0.mk (Qap (bw_) hb); have n2_ := Aside0.mk (hbox); have n3_ := Aside0.mk ((gs_ hg bw_ : w.heap.size ≤ gb103)); have n4_ := Aside0.mk ((gs_ hg bw_ : w.heap.size ≤ gb103)); have n5_ := Aside0.mk ((nl_ hg BK101 : gb101 ≠ gb103)); have n6_ := Aside0.mk ((ng_ hg BK101 : gb103 ≠ gb101)); clear BK101; clear HB; have BK101 := n0_; have HB := n1_; have BK103 := n2_; have GW103 := n3_; have GE103 := n4_; have NB101_103 := n5_; have NB103_101 := n6_; clear n0_ n1_ n2_ n3_ n4_ n5_ n6_; clear hb hbox hg; have hnb30 := NB103_101.out; have hnc30 := NB101_103.out; obtain ⟨hcz31_0, hcz31_1, hfz31_0, hfz31_1⟩ := Qb2 BK103.out) | ((with_reducible refine QaH (N := 29) rfl ?_); refine Kd.R_lit (Kd.int .i64) _ 3 ?hg (N := 29) ?hd (xs := ([wrap64 (a1 + 1)] : List Int)) (inner := [.int .i64 (wrap64 (a1 + 1))]) (ok := fun _ => True) (okp := fun _ => True) ?hr ?hp (fun _ hk => hk) trivial (Below.refl _ _) (Nat.le_refl _) (by simp) ?_; (case hd => rfl); (case hg => rfl); (case hr => first | (go_simp; done) | (go_simp; rfl)); (case hp => exact (Qa9.one (show Kd.M (Kd.int .i64) _ _ _ (wrap64 (a1 + 1)) [.int .i64 (wrap64 (a1 + 1))] from rfl) (Qa9.none _ _))); intro v111 w32 ho33 hb hg_ hnew_; clear hg_ hnew_; (first | rw [← Ny110.out] at ho33 | (simp only [Int.reduceToNat] at ho33; rw [← Ny110.out] at ho33)); have n0_ := Aside0.mk (Kd.R_lower ho33 (QaY (bw_))); have n1_ := Aside0.mk (QbW (g := gb101) (o := .cells #[.int .i64 a0_0, .int .i64 a0_1, .slice (some ad102) l0_2.length c0_2] 34 (0, 0)) (by (refine kb_ ?_); refine Qbe ?_ NB101_103.out _; (refine kb_ ?_); refine Qbe ?_ NB101_103.out _; (refine kb_ ?_); exact BK101.out) hb); have n2_ := Aside0.mk (QbW (g := gb103) (o := .cells #[.int .i64 ((Qah l0_2 a1).f0), .int .i64 ((Qah l0_2 a1).f1)] 83 (0, 0)) (by (refine kb_ ?_); refine Qbc (cs := #[.int .i64 ((Qah l0_2 a1).f0), .int .i64 0]) ?_ 1 _ rfl; (refine kb_ ?_); refine Qbc (cs := #[.int .i64 0, .int .i64 0]) ?_ 0 _ rfl; (refine kb_ ?_); exact BK103.out) hb); have n3_ := Aside0.mk (Qap (bw_) hb); clear BK101; clear BK103; clear HB; have HO112 := n0_; have BK101 := n1_; have BK103 := n2_; have HB := n3_; clear n0_ n1_ n2_ n3_; clear hb ho33))
           go_ret
           exact ⟨_, by first | rfl | (simp [Qan, Qao] <;> rfl) | (simp [*, Qan, Qao] <;> rfl), by (refine QaP ?_); exact HO112.out, bw_⟩
   · rw [if_neg c4] at H
     exact absurd H (by simp)
 · rw [if_neg c3] at H
   exact absurd H (by simp)
end Go.Proofs.Ytabcijheemjplaa.G
namespace Go.Proofs.Ytabcijheemjplaa.G
open Go.RowKit Go.Proofs.YtabcijheemjplaaW.PrintWords Go.Proofs.YtabcijheemjplaaW.PrintLast Go.Proofs.YtabcijheemjplaaW.PrintMore
attribute [local go_sem] QaQ QaR Qa3 Qa4 QaJ QaK QaS QaT
set_option linter.unusedVariables false
set_option linter.unusedSimpArgs false
def Qcv.f (a0 : Int) (a1 : Int) (a2 : Int) : Option (Bool) := if a0 ≥ a1 then (some (decide (a0 ≤ a2))) else (some false)
set_option maxHeartbeats 8000000 in
set_option maxRecDepth 100000 in
theorem Qcv.calls (a0 : Int) (a1 : Int) (a2 : Int) (r : Bool) (w : World) (h : Qcv.f a0 a1 a2 = some r) :
 Calls Try.prog 62 #[.int .i64 a0, .int .i64 a1, .int .i64 a2] w fun e w' => e = .returned (.bool r) ∧ Qbv w w' := by
 have H : (if a0 ≥ a1 then (some (decide (a0 ≤ a2))) else (some false)) = some r := h
 clear h
 by_cases c4 : a0 ≥ a1
 · rw [if_pos c4] at H
   have c4b0 : decide (a1 ≤ a0) = true := decide_eq_true c4
   clear c4
   obtain rfl := Option.some.inj H
   go_enter Try.func62, Try.ntmps62
   go_wp2
   go_ret
   exact ⟨by first | rfl | (simp; done) | (simp [*]; done), by repeat (first | exact Qbv.refl _ | apply Qbv.step)⟩
 · rw [if_neg c4] at H
   have c4b0 : decide (a1 ≤ a0) = false := decide_eq_false c4
   clear c4
   obtain rfl := Option.some.inj H
   go_enter Try.func62, Try.ntmps62
   go_wp2
   go_ret
   exact ⟨by first | rfl | (simp; done) | (simp [*]; done), by repeat (first | exact Qbv.refl _ | apply Qbv.step)⟩
end Go.Proofs.Ytabcijheemjplaa.G
namespace Go.Proofs.Ytabcijheemjplaa.G
open Go.RowKit Go.Proofs.YtabcijheemjplaaW.PrintWords Go.Proofs.YtabcijheemjplaaW.PrintLast Go.Proofs.YtabcijheemjplaaW.PrintMore
attribute [local go_sem] QaQ QaR Qa3 Qa4 QaJ QaK QaS QaT
set_option linter.unusedVariables false
set_option linter.unusedSimpArgs false
def Qa7.f (k : Nat) (l0_0 : List (Qae)) (a1_0 : Int) (a1_1 : Int) (a2 : Int) : Option (Int) := (Qaq.f k l0_0 a1_0 a1_1).bind fun bt103 => (if bt103.1 > a2 then (some (-1)) else (if (wrap64 ((wrap64 (a2 - bt103.1)) + bt103.2)) > 6 then (some (-1)) else (some (wrap64 ((wrap64 (a2 - bt103.1)) + bt103.2)))))
theorem Qa7.mono : ∀ a0 a1 a2 a3 k, LeO (Qa7.f k a0 a1 a2 a3) (Qa7.f (k + 1) a0 a1 a2 a3) := by
 intro a0 a1 a2 a3 k
 unfold Qa7.f
 repeat' first
  | (with_reducible exact Qaq.mono _ _ _ _)
  | (with_reducible exact LeO.refl _)
  | (with_reducible exact LeO.none _)
  | (with_reducible refine LeO.ite ?_ ?_)
  | (with_reducible refine LeO.bind ?_ (fun _ => ?_))
  | exact Qaq.mono _ _ _ _
  | exact LeO.none _
  | refine LeO.ite ?_ ?_
  | refine LeO.bind ?_ (fun _ => ?_)
set_option maxHeartbeats 8000000 in
set_option maxRecDepth 100000 in
theorem Qa7.calls (k : Nat) (A0_0 : Option Addr) (c0_0 : Nat) (l0_0 : List (Qae)) (a1_0 : Int) (a1_1 : Int) (a2 : Int) (r : Int) (w : World) (hr0_0 : Kd.C QaD w A0_0 l0_0.length l0_0) (hc0_0 : l0_0.length ≤ c0_0) (h : Qa7.f k l0_0 a1_0 a1_1 a2 = some r) :
 Calls Try.prog 61 #[.agg #[.slice A0_0 l0_0.length c0_0], .agg #[.int .i64 a1_0, .int .i64 a1_1], .int .i64 a2] w fun e w' => e = .returned (.int .i64 r) ∧ Below w.heap.size w w' := by
 have hu25 := Try.underlying25
 have hu83 := Try.underlying83
 have HR0_0 := Aside0.mk hr0_0
 have HC0_0 := Aside0.mk hc0_0
 clear hr0_0 hc0_0
 have HB := Aside0.mk (Below.refl w.heap.size w)
 have H : ((Qaq.f k l0_0 a1_0 a1_1).bind fun bt103 => (if bt103.1 > a2 then (some (-1)) else (if (wrap64 ((wrap64 (a2 - bt103.1)) + bt103.2)) > 6 then (some (-1)) else (some (wrap64 ((wrap64 (a2 - bt103.1)) + bt103.2)))))) = some r := h
 clear h
 replace H := Option.bind_eq_some_iff.mp H
 obtain ⟨⟨t103, t104⟩, A40, H⟩ := H
 replace H : (if t103 > a2 then (some (-1)) else (if (wrap64 ((wrap64 (a2 - t103)) + t104)) > 6 then (some (-1)) else (some (wrap64 ((wrap64 (a2 - t103)) + t104))))) = some r := H
 have A4 := Aside0.mk A40
 clear A40
 by_cases c5 : t103 > a2
 · rw [if_pos c5] at H
   have c5b0 : decide (a2 < t103) = true := decide_eq_true c5
   clear c5
   obtain rfl := Option.some.inj H
   go_enter Try.func61, Try.ntmps61
   go_wp2_with (first | ((with_reducible refine QaH (N := 3) rfl ?_); refine QaN ?hg (N := 3) ?hd (cs := #[.slice A0_0 l0_0.length c0_0]) (t := 25) ?hr ?_; (case hd => rfl); (case hg => rfl); (case hr => first | (go_simp; done) | (go_simp; rfl)); intro gb101 hg w6 hbox hb; have n0_ := Aside0.mk (Qap (bw_) hb); have n1_ := Aside0.mk (hbox); have n2_ := Aside0.mk ((gs_ hg bw_ : w.heap.size ≤ gb101)); have n3_ := Aside0.mk ((gs_ hg bw_ : w.heap.size ≤ gb101)); clear HB; have HB := n0_; have BK101 := n1_; have GW101 := n2_; have GE101 := n3_; clear n0_ n1_ n2_ n3_; clear hb hbox hg) | ((with_reducible refine QaH (N := 4) rfl ?_); refine QaN ?hg (N := 4) ?hd (cs := #[.int .i64 a1_0, .int .i64 a1_1]) (t := 83) ?hr ?_; (case hd => rfl); (case hg => rfl); (case hr => first | (go_simp; done) | (go_simp; rfl)); intro gb102 hg w7 hbox hb; have n0_ := Aside0.mk (bb_ BK101 hb); have n1_ := Aside0.mk (Qap (bw_) hb); have n2_ := Aside0.mk (hbox); have n3_ := Aside0.mk ((gs_ hg bw_ : w.heap.size ≤ gb102)); have n4_ := Aside0.mk ((gs_ hg bw_ : w.heap.size ≤ gb102)); have n5_ := Aside0.mk ((nl_ hg BK101 : gb101 ≠ gb102)); have n6_ := Aside0.mk ((ng_ hg BK101 : gb102 ≠ gb101)); clear BK101; clear HB; have BK101 := n0_; have HB := n1_; have BK102 := n2_; have GW102 := n3_; have GE102 := n4_; have NB101_102 := n5_; have NB102_101 := n6_; clear n0_ n1_ n2_ n3_ n4_ n5_ n6_; clear hb hbox hg; have hnb8 := NB101_102.out; have hnc8 := NB102_101.out; obtain ⟨hcz9_0, hfz9_0⟩ := blkF1_ BK101.out; obtain ⟨hcz10_0, hcz10_1, hfz10_0, hfz10_1⟩ := Qb2 BK102.out) | ((with_reducible refine Qax (f := 106) rfl ?_); refine QaX (some 12) rfl rfl Try.func106 (by kernel_rfl) rfl #[.agg #[.slice A0_0 l0_0.length c0_0], .agg #[.int .i64 a1_0, .int .i64 a1_1]] rfl (by (try simp only [List.map_toArray, List.map_cons, List.map_nil]); first | done | rfl | (simp only [List.length_drop, List.length_take]; rfl)) ?_; (with_reducible refine (Qaq.calls k _ _ l0_0 a1_0 a1_1 t103 t104 _ ?side1 ?side2 A4.out).mono ?_); (case side1 => exact cb_); (case side2 => exact HC0_0.out); rintro e w11 ⟨rfl, hb⟩; refine ⟨_, rfl, ?_⟩; have n0_ := Aside0.mk (bb_ BK101 hb); have n1_ := Aside0.mk (bb_ BK102 hb); have n2_ := Aside0.mk (Qap (bw_) hb); clear BK101; clear BK102; clear HB; have BK101 := n0_; have BK102 := n1_; have HB := n2_; clear n0_ n1_ n2_; (try clear hb); (try clear hb2); (try clear hk); (try clear hi)))
   go_ret
   exact ⟨by first | rfl | (simp [Qan, Qao] <;> rfl) | (simp [*, Qan, Qao] <;> rfl), bw_⟩
 · rw [if_neg c5] at H
   have c5b0 : decide (a2 < t103) = false := decide_eq_false c5
   clear c5
   by_cases c12 : (wrap64 ((wrap64 (a2 - t103)) + t104)) > 6
   · rw [if_pos c12] at H
     have c12b0 : decide (6 < (wrap64 ((wrap64 (a2 - t103)) + t104))) = true := decide_eq_true c12
     clear c12
     obtain rfl := Option.some.inj H
     go_enter Try.func61, Try.ntmps61
     go_wp2_with (first | ((with_reducible refine QaH (N := 3) rfl ?_); refine QaN ?hg (N := 3) ?hd (cs := #[.slice A0_0 l0_0.length c0_0]) (t := 25) ?hr ?_; (case hd => rfl); (case hg => rfl); (case hr => first | (go_simp; done) | (go_simp; rfl)); intro gb101 hg w13 hbox hb; have n0_ := Aside0.mk (Qap (bw_) hb); have n1_ := Aside0.mk (hbox); have n2_ := Aside0.mk ((gs_ hg bw_ : w.heap.size ≤ gb101)); have n3_ := Aside0.mk ((gs_ hg bw_ : w.heap.size ≤ gb101)); clear HB; have HB := n0_; have BK101 := n1_; have GW101 := n2_; have GE101 := n3_; clear n0_ n1_ n2_ n3_; clear hb hbox hg) | ((with_reducible refine QaH (N := 4) rfl ?_); refine QaN ?hg (N := 4) ?hd (cs := #[.int .i64 a1_0, .int .i64 a1_1]) (t := 83) ?hr ?_; (case hd => rfl); (case hg => rfl); (case hr => first | (go_simp; done) | (go_simp; rfl)); intro gb102 hg w14 hbox hb; have n0_ := Aside0.mk (bb_ BK101 hb); have n1_ := Aside0.mk (Qap (bw_) hb); have n2_ := Aside0.mk (hbox); have n3_ := Aside0.mk ((gs_ hg bw_ : w.heap.size ≤ gb102)); have n4_ := Aside0.mk ((gs_ hg bw_ : w.heap.size ≤ gb102)); have n5_ := Aside0.mk ((nl_ hg BK101 : gb101 ≠ gb102)); have n6_ := Aside0.mk ((ng_ hg BK101 : gb102 ≠ gb101)); clear BK101; clear HB; have BK101 := n0_; have HB := n1_; have BK102 := n2_; have GW102 := n3_; have GE102 := n4_; have NB101_102 := n5_; have NB102_101 := n6_; clear n0_ n1_ n2_ n3_ n4_ n5_ n6_; clear hb hbox hg; have hnb15 := NB101_102.out; have hnc15 := NB102_101.out; obtain ⟨hcz16_0, hfz16_0⟩ := blkF1_ BK101.out; obtain ⟨hcz17_0, hcz17_1, hfz17_0, hfz17_1⟩ := Qb2 BK102.out) | ((with_reducible refine Qax (f := 106) rfl ?_); refine QaX (some 12) rfl rfl Try.func106 (by kernel_rfl) rfl #[.agg #[.slice A0_0 l0_0.length c0_0], .agg #[.int .i64 a1_0, .int .i64 a1_1]] rfl (by (try simp only [List.map_toArray, List.map_cons, List.map_nil]); first | done | rfl | (simp only [List.length_drop, List.length_take]; rfl)) ?_; (with_reducible refine (Qaq.calls k _ _ l0_0 a1_0 a1_1 t103 t104 _ ?side1 ?side2 A4.out).mono ?_); (case side1 => exact cb_); (case side2 => exact HC0_0.out); rintro e w18 ⟨rfl, hb⟩; refine ⟨_, rfl, ?_⟩; have n0_ := Aside0.mk (bb_ BK101 hb); have n1_ := Aside0.mk (bb_ BK102 hb); have n2_ := Aside0.mk (Qap (bw_) hb); clear BK101; clear BK102; clear HB; have BK101 := n0_; have BK102 := n1_; have HB := n2_; clear n0_ n1_ n2_; (try clear hb); (try clear hb2); (try clear hk); (try clear hi)))
     go_ret
     exact ⟨by first | rfl | (simp [Qan, Qao] <;> rfl) | (simp [*, Qan, Qao] <;> rfl), bw_⟩
   · rw [if_neg c12] at H
     have c12b0 : decide (6 < (wrap64 ((wrap64 (a2 - t103)) + t104))) = false := decide_eq_false c12
     clear c12
     obtain rfl := Option.some.inj H
     go_enter Try.func61, Try.ntmps61
     go_wp2_with (first | ((with_reducible refine QaH (N := 3) rfl ?_); refine QaN ?hg (N := 3) ?hd (cs := #[.slice A0_0 l0_0.length c0_0]) (t := 25) ?hr ?_; (case hd => rfl); (case hg => rfl); (case hr => first | (go_simp; done) | (go_simp; rfl)); intro gb101 hg w19 hbox hb; have n0_ := Aside0.mk (Qap (bw_) hb); have n1_ := Aside0.mk (hbox); have n2_ := Aside0.mk ((gs_ hg bw_ : w.heap.size ≤ gb101)); have n3_ := Aside0.mk ((gs_ hg bw_ : w.heap.size ≤ gb101)); clear HB; have HB := n0_; have BK101 := n1_; have GW101 := n2_; have GE101 := n3_; clear n0_ n1_ n2_ n3_; clear hb hbox hg) | ((with_reducible refine QaH (N := 4) rfl ?_); refine QaN ?hg (N := 4) ?hd (cs := #[.int .i64 a1_0, .int .i64 a1_1]) (t := 83) ?hr ?_; (case hd => rfl); (case hg => rfl); (case hr => first | (go_simp; done) | (go_simp; rfl)); intro gb102 hg w20 hbox hb; have n0_ := Aside0.mk (bb_ BK101 hb); have n1_ := Aside0.mk (Qap (bw_) hb); have n2_ := Aside0.mk (hbox); have n3_ := Aside0.mk ((gs_ hg bw_ : w.heap.size ≤ gb102)); have n4_ := Aside0.mk ((gs_ hg bw_ : w.heap.size ≤ gb102)); have n5_ := Aside0.mk ((nl_ hg BK101 : gb101 ≠ gb102)); have n6_ := Aside0.mk ((ng_ hg BK101 : gb102 ≠ gb101)); clear BK101; clear HB; have BK101 := n0_; have HB := n1_; have BK102 := n2_; have GW102 := n3_; have GE102 := n4_; have NB101_102 := n5_; have NB102_101 := n6_; clear n0_ n1_ n2_ n3_ n4_ n5_ n6_; clear hb hbox hg; have hnb21 := NB101_102.out; have hnc21 := NB102_101.out; obtain ⟨hcz22_0, hfz22_0⟩ := blkF1_ BK101.out; obtain ⟨hcz23_0, hcz23_1, hfz23_0, hfz23_1⟩ := Qb2 BK102.out) | ((with_reducible refine Qax (f := 106) rfl ?_); refine QaX (some 12) rfl rfl Try.func106 (by kernel_rfl) rfl #[.agg #[.slice A0_0 l0_0.length c0_0], .agg #[.int .i64 a1_0, .int .i64 a1_1]] rfl (by (try simp only [List.map_toArray, List.map_cons, List.map_nil]); first | done | rfl | (simp only [List.length_drop, List.length_take]; rfl)) ?_; (with_reducible refine (Qaq.calls k _ _ l0_0 a1_0 a1_1 t103 t104 _ ?side1 ?side2 A4.out).mono ?_); (case side1 => exact cb_); (case side2 => exact HC0_0.out); rintro e w24 ⟨rfl, hb⟩; refine ⟨_, rfl, ?_⟩; have n0_ := Aside0.mk (bb_ BK101 hb); have n1_ := Aside0.mk (bb_ BK102 hb); have n2_ := Aside0.mk (Qap (bw_) hb); clear BK101; clear BK102; clear HB; have BK101 := n0_; have BK102 := n1_; have HB := n2_; clear n0_ n1_ n2_; (try clear hb); (try clear hb2); (try clear hk); (try clear hi)))
     go_ret
     exact ⟨by first | rfl | (simp [Qan, Qao] <;> rfl) | (simp [*, Qan, Qao] <;> rfl), bw_⟩
end Go.Proofs.Ytabcijheemjplaa.G
namespace Go.Proofs.Ytabcijheemjplaa.G
open Go.RowKit Go.Proofs.YtabcijheemjplaaW.PrintWords Go.Proofs.YtabcijheemjplaaW.PrintLast Go.Proofs.YtabcijheemjplaaW.PrintMore
attribute [local go_sem] QaQ QaR Qa3 Qa4 QaJ QaK QaS QaT
set_option linter.unusedVariables false
set_option linter.unusedSimpArgs false
def QbC.f (a0_0 : Int) (a0_1 : Int) (a1 : Int) : Option (List Int) := if a0_0 = 10 then (some (([] : List Int))) else (if a0_0 = 7 then (some (([a0_1] : List Int))) else (if a0_0 = 8 then (some (([wrap64 (a1 + 1), a0_1] : List Int))) else (some (([wrap64 (a1 + 1)] : List Int)))))
set_option maxHeartbeats 8000000 in
set_option maxRecDepth 100000 in
theorem QbC.calls (a0_0 : Int) (a0_1 : Int) (a1 : Int) (r : List Int) (w : World) (h : QbC.f a0_0 a0_1 a1 = some r) :
 Calls Try.prog 103 #[.agg #[.int .i64 a0_0, .int .i64 a0_1], .int .i64 a1] w fun e w' => ∃ v0_ : Value, e = .returned (v0_) ∧ Kd.R (Kd.int .i64) 3 w' w.heap.size (fun _ => True) v0_ r ∧ Below w.heap.size w w' := by
 have hu83 := Try.underlying83
 have HB := Aside0.mk (Below.refl w.heap.size w)
 have H : (if a0_0 = 10 then (some (([] : List Int))) else (if a0_0 = 7 then (some (([a0_1] : List Int))) else (if a0_0 = 8 then (some (([wrap64 (a1 + 1), a0_1] : List Int))) else (some (([wrap64 (a1 + 1)] : List Int)))))) = some r := h
 clear h
 by_cases c3 : a0_0 = 10
 · rw [if_pos c3] at H
   have c3b0 : (a0_0 == 10) = true := beq_iff_eq.mpr c3
   have c3b1 : (a0_0 != 10) = false := bne_eq_false_iff_eq.mpr c3
   clear c3
   obtain ⟨y102, hy102⟩ : ∃ y_ : List Int, y_ = (([] : List Int)) := ⟨_, rfl⟩
   replace H : (some y102) = some r := by first | (rw [hy102]; with_reducible exact H) | (have H2_ := (Option.bind_some _ _).symm.trans H; rw [hy102]; with_reducible exact H2_) | (have H2_ := (Option.bind_some _ _).symm.trans H; with_reducible exact H2_) | with_reducible exact H | (rw [hy102]; exact H) | exact H
   have Ny102 := Aside0.mk hy102
   clear hy102
   obtain rfl := Option.some.inj H
   go_enter Try.func103, Try.ntmps103
   go_wp2_with (first | ((with_reducible refine QaH (N := 2) rfl ?_); refine QaN ?hg (N := 2) ?hd (cs := #[.int .i64 a0_0, .int .i64 a0_1]) (t := 83) ?hr ?_; (case hd => rfl); (case hg => rfl); (case hr => first | (go_simp; done) | (go_simp; rfl)); intro gb101 hg w4 hbox hb; have n0_ := Aside0.mk (Qap (bw_) hb); have n1_ := Aside0.mk (hbox); have n2_ := Aside0.mk ((gs_ hg bw_ : w.heap.size ≤ gb101)); have n3_ := Aside0.mk ((gs_ hg bw_ : w.heap.size ≤ gb101)); clear HB; have HB := n0_; have BK101 := n1_; have GW101 := n2_; have GE101 := n3_; clear n0_ n1_ n2_ n3_; clear hb hbox hg; obtain ⟨hcz5_0, hcz5_1, hfz5_0, hfz5_1⟩ := Qb2 BK101.out) | ((with_reducible refine QaH (N := 9) rfl ?_); refine Kd.R_lit (Kd.int .i64) _ 3 ?hg (N := 9) ?hd (xs := ([] : List Int)) (inner := []) (ok := fun _ => True) (okp := fun _ => True) ?hr ?hp (fun _ hk => hk) trivial (Below.refl _ _) (Nat.le_refl _) (by simp) ?_; (case hd => rfl); (case hg => rfl); (case hr => first | (go_simp; done) | (go_simp; rfl)); (case hp => exact (Qa9.none _ _)); intro v103 w6 ho7 hb hg_ hnew_; clear hg_ hnew_; (first | rw [← Ny102.out] at ho7 | (simp only [Int.reduceToNat] at ho7; rw [← Ny102.out] at ho7)); have n0_ := Aside0.mk (Kd.R_lower ho7 (QaY (bw_))); have n1_ := Aside0.mk (bb_ BK101 hb); have n2_ := Aside0.mk (Qap (bw_) hb); clear BK101; clear HB; have HO104 := n0_; have BK101 := n1_; have HB := n2_; clear n0_ n1_ n2_; clear hb ho7))
   go_ret
   exact ⟨_, by first | rfl | (simp [Qan, Qao] <;> rfl) | (simp [*, Qan, Qao] <;> rfl), by (refine QaP ?_); exact HO104.out, bw_⟩
 · rw [if_neg c3] at H
   have c3b0 : (a0_0 == 10) = false := beq_eq_false_iff_ne.mpr c3
   have c3b1 : (a0_0 != 10) = true := bne_iff_ne.mpr c3
   by_cases c8 : a0_0 = 7
   · rw [if_pos c8] at H
     have c8b0 : (a0_0 == 7) = true := beq_iff_eq.mpr c8
     have c8b1 : (a0_0 != 7) = false := bne_eq_false_iff_eq.mpr c8
     clear c8
     obtain ⟨y105, hy105⟩ : ∃ y_ : List Int, y_ = (([a0_1] : List Int)) := ⟨_, rfl⟩
     replace H : (some y105) = some r := by first | (rw [hy105]; with_reducible exact H) | (have H2_ := (Option.bind_some _ _).symm.trans H; rw [hy105]; with_reducible exact H2_) | (have H2_ := (Option.bind_some _ _).symm.trans H; with_reducible exact H2_) | with_reducible exact H | (rw [hy105]; exact H) | exact H
     have Ny105 := Aside0.mk hy105
     clear hy105
     obtain rfl := Option.some.inj H
     go_enter Try.func103, Try.ntmps103
     go_wp2_with (first | ((with_reducible refine QaH (N := 2) rfl ?_); refine QaN ?hg (N := 2) ?hd (cs := #[.int .i64 a0_0, .int .i64 a0_1]) (t := 83) ?hr ?_; (case hd => rfl); (case hg => rfl); (case hr => first | (go_simp; done) | (go_simp; rfl)); intro gb101 hg w9 hbox hb; have n0_ := Aside0.mk (Qap (bw_) hb); have n1_ := Aside0.mk (hbox); have n2_ := Aside0.mk ((gs_ hg bw_ : w.heap.size ≤ gb101)); have n3_ := Aside0.mk ((gs_ hg bw_ : w.heap.size ≤ gb101)); clear HB; have HB := n0_; have BK101 := n1_; have GW101 := n2_; have GE101 := n3_; clear n0_ n1_ n2_ n3_; clear hb hbox hg; obtain ⟨hcz10_0, hcz10_1, hfz10_0, hfz10_1⟩ := Qb2 BK101.out) | ((with_reducible refine QaH (N := 14) rfl ?_); refine Kd.R_lit (Kd.int .i64) _ 3 ?hg (N := 14) ?hd (xs := ([a0_1] : List Int)) (inner := [.int .i64 a0_1]) (ok := fun _ => True) (okp := fun _ => True) ?hr ?hp (fun _ hk => hk) trivial (Below.refl _ _) (Nat.le_refl _) (by simp) ?_; (case hd => rfl); (case hg => rfl); (case hr => first | (go_simp; done) | (go_simp; rfl)); (case hp => exact (Qa9.one (show Kd.M (Kd.int .i64) _ _ _ a0_1 [.int .i64 a0_1] from rfl) (Qa9.none _ _))); intro v106 w11 ho12 hb hg_ hnew_; clear hg_ hnew_; (first | rw [← Ny105.out] at ho12 | (simp only [Int.reduceToNat] at ho12; rw [← Ny105.out] at ho12)); have n0_ := Aside0.mk (Kd.R_lower ho12 (QaY (bw_))); have n1_ := Aside0.mk (bb_ BK101 hb); have n2_ := Aside0.mk (Qap (bw_) hb); clear BK101; clear HB; have HO107 := n0_; have BK101 := n1_; have HB := n2_; clear n0_ n1_ n2_; clear hb ho12))
     go_ret
     exact ⟨_, by first | rfl | (simp [Qan, Qao] <;> rfl) | (simp [*, Qan, Qao] <;> rfl), by (refine QaP ?_); exact HO107.out, bw_⟩
   · rw [if_neg c8] at H
     have c8b0 : (a0_0 == 7) = false := beq_eq_false_iff_ne.mpr c8
     have c8b1 : (a0_0 != 7) = true := bne_iff_ne.mpr c8
     by_cases c13 : a0_0 = 8
     · rw [if_pos c13] at H
       have c13b0 : (a0_0 == 8) = true := beq_iff_eq.mpr c13
       have c13b1 : (a0_0 != 8) = false := bne_eq_false_iff_eq.mpr c13
       clear c13
       obtain ⟨y108, hy108⟩ : ∃ y_ : List Int, y_ = (([wrap64 (a1 + 1), a0_1] : List Int)) := ⟨_, rfl⟩
       replace H : (some y108) = some r := by first | (rw [hy108]; with_reducible exact H) | (have H2_ := (Option.bind_some _ _).symm.trans H; rw [hy108]; with_reducible exact H2_) | (have H2_ := (Option.bind_some _ _).symm.trans H; with_reducible exact H2_) | with_reducible exact H | (rw [hy108]; exact H) | exact H
       have Ny108 := Aside0.mk hy108
       clear hy108
       obtain rfl := Option.some.inj H
       go_enter Try.func103, Try.ntmps103
       go_wp2_with (first | ((with_reducible refine QaH (N := 2) rfl ?_); refine QaN ?hg (N := 2) ?hd (cs := #[.int .i64 a0_0, .int .i64 a0_1]) (t := 83) ?hr ?_; (case hd => rfl); (case hg => rfl); (case hr => first | (go_simp; done) | (go_simp; rfl)); intro gb101 hg w14 hbox hb; have n0_ := Aside0.mk (Qap (bw_) hb); have n1_ := Aside0.mk (hbox); have n2_ := Aside0.mk ((gs_ hg bw_ : w.heap.size ≤ gb101)); have n3_ := Aside0.mk ((gs_ hg bw_ : w.heap.size ≤ gb101)); clear HB; have HB := n0_; have BK101 := n1_; have GW101 := n2_; have GE101 := n3_; clear n0_ n1_ n2_ n3_; clear hb hbox hg; obtain ⟨hcz15_0, hcz15_1, hfz15_0, hfz15_1⟩ := Qb2 BK101.out) | ((with_reducible refine QaH (N := 21) rfl ?_); refine Kd.R_lit (Kd.int .i64) _ 3 ?hg (N := 21) ?hd (xs := ([wrap64 (a1 + 1), a0_1] : List Int)) (inner := [.int .i64 (wrap64 (a1 + 1)), .int .i64 a0_1]) (ok := fun _ => True) (okp := fun _ => True) ?hr ?hp (fun _ hk => hk) trivial (Below.refl _ _) (Nat.le_refl _) (by simp) ?_; (case hd => rfl); (case hg => rfl); (case hr => first | (go_simp; done) | (go_simp; rfl)); (case hp => exact (Qa9.one (show Kd.M (Kd.int .i64) _ _ _ (wrap64 (a1 + 1)) [.int .i64 (wrap64 (a1 + 1))] from rfl) (Qa9.one (show Kd.M (Kd.int .i64) _ _ _ a0_1 [.int .i64 a0_1] from rfl) (Qa9.none _ _)))); intro v109 w16 ho17 hb hg_ hnew_; clear hg_ hnew_; (first | rw [← Ny108.out] at ho17 | (simp only [Int.reduceToNat] at ho17; rw [← Ny108.out] at ho17)); have n0_ := Aside0.mk (Kd.R_lower ho17 (QaY (bw_))); have n1_ := Aside0.mk (bb_ BK101 hb); have n2_ := Aside0.mk (Qap (bw_) hb); clear BK101; clear HB; have HO110 := n0_; have BK101 := n1_; have HB := n2_; clear n0_ n1_ n2_; clear hb ho17))
       go_ret
       exact ⟨_, by first | rfl | (simp [Qan, Qao] <;> rfl) | (simp [*, Qan, Qao] <;> rfl), by (refine QaP ?_); exact HO110.out, bw_⟩
     · rw [if_neg c13] at H
       have c13b0 : (a0_0 == 8) = false := beq_eq_false_iff_ne.mpr c13
       have c13b1 : (a0_0 != 8) = true := bne_iff_ne.mpr c13
       obtain ⟨y111, hy111⟩ : ∃ y_ : List Int, y_ = (([wrap64 (a1 + 1)] : List Int)) := ⟨_, rfl⟩
       replace H : (some y111) = some r := by first | (rw [hy111]; with_reducible exact H) | (have H2_ := (Option.bind_some _ _).symm.trans H; rw [hy111]; with_reducible exact H2_) | (have H2_ := (Option.bind_some _ _).symm.trans H; with_reducible exact H2_) | with_reducible exact H | (rw [hy111]; exact H) | exact H
       have Ny111 := Aside0.mk hy111
       clear hy111
       obtain rfl := Option.some.inj H
       go_enter Try.func103, Try.ntmps103
       go_wp2_with (first | ((with_reducible refine QaH (N := 2) rfl ?_); refine QaN ?hg (N := 2) ?hd (cs := #[.int .i64 a0_0, .int .i64 a0_1]) (t := 83) ?hr ?_; (case hd => rfl); (case hg => rfl); (case hr => first | (go_simp; done) | (go_simp; rfl)); intro gb101 hg w18 hbox hb; have n0_ := Aside0.mk (Qap (bw_) hb); have n1_ := Aside0.mk (hbox); have n2_ := Aside0.mk ((gs_ hg bw_ : w.heap.size ≤ gb101)); have n3_ := Aside0.mk ((gs_ hg bw_ : w.heap.size ≤ gb101)); clear HB; have HB := n0_; have BK101 := n1_; have GW101 := n2_; have GE101 := n3_; clear n0_ n1_ n2_ n3_; clear hb hbox hg; obtain ⟨hcz19_0, hcz19_1, hfz19_0, hfz19_1⟩ := Qb2 BK101.out) | ((with_reducible refine QaH (N := 24) rfl ?_); refine Kd.R_lit (Kd.int .i64) _ 3 ?hg (N := 24) ?hd (xs := ([wrap64 (a1 + 1)] : List Int)) (inner := [.int .i64 (wrap64 (a1 + 1))]) (ok := fun _ => True) (okp := fun _ => True) ?hr ?hp (fun _ hk => hk) trivial (Below.refl _ _) (Nat.le_refl _) (by simp) ?_; (case hd => rfl); (case hg => rfl); (case hr => first | (go_simp; done) | (go_simp; rfl)); (case hp => exact (Qa9.one (show Kd.M (Kd.int .i64) _ _ _ (wrap64 (a1 + 1)) [.int .i64 (wrap64 (a1 + 1))] from rfl) (Qa9.none _ _))); intro v112 w20 ho21 hb hg_ hnew_; clear hg_ hnew_; (first | rw [← Ny111.out] at ho21 | (simp only [Int.reduceToNat] at ho21; rw [← Ny111.out] at ho21)); have n0_ := Aside0.mk (Kd.R_lower ho21 (QaY (bw_))); have n1_ := Aside0.mk (bb_ BK101 hb); have n2_ := Aside0.mk (Qap (bw_) hb); clear BK101; clear HB; have HO113 := n0_; have BK101 := n1_; have HB := n2_; clear n0_ n1_ n2_; clear hb ho21))
       go_ret
       exact ⟨_, by first | rfl | (simp [Qan, Qao] <;> rfl) | (simp [*, Qan, Qao] <;> rfl), by (refine QaP ?_); exact HO113.out, bw_⟩
end Go.Proofs.Ytabcijheemjplaa.G
