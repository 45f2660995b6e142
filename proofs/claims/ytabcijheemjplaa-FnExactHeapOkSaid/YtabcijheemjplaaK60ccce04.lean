import Derived.Test.YtabcijheemjplaaK504cd682
import Derived.Test.YtabcijheemjplaaK7199d01e
import Derived.Test.YtabcijheemjplaaK71ac883f
namespace Go.Proofs.Ytabcijheemjplaa.G
open Go.RowKit Go.Proofs.YtabcijheemjplaaW.PrintWords Go.Proofs.YtabcijheemjplaaW.PrintLast Go.Proofs.YtabcijheemjplaaW.PrintMore
attribute [local go_sem] Qa3 Qa4 Qbc Qbd QaP QaQ Qa5 Qa6
set_option linter.unusedVariables false
set_option linter.unusedSimpArgs false
def QaC.l0 : Nat → List (Qao) → Int → List (Qai) → Option (Bool)
 | 0, _, _, _ => none
 | k + 1, x1, x5, x102000 => if x5 < (x1.length : Int) then (if 0 ≤ x5 then (if ((Qaw x1 x5).f0) = 2 then ((Qav.f ((Qaw x1 x5).f1) 0 (wrap64 ((x102000.length : Int) - 1))).bind fun t104 => (if t104 = true then (QaC.l0 k x1 (wrap64 (x5 + 1)) x102000) else (some false))) else ((QbZ.f ((Qaw x1 x5).f0) ((Qaw x1 x5).f1) 0).bind fun t105 => (if t105 = true then (QaC.l0 k x1 (wrap64 (x5 + 1)) x102000) else (some false)))) else (none)) else (some true)
def QaC.f (k : Nat) (l0_0 : List (Qai)) (l1 : List (Qao)) : Option (Bool) := QaC.l0 k l1 0 l0_0
theorem QaC.mono_l : ∀ k, (∀ y0 y1 y2, LeO (QaC.l0 k y0 y1 y2) (QaC.l0 (k + 1) y0 y1 y2))
 | 0 => fun _ _ _ r h => by simp [QaC.l0] at h
 | k + 1 => by
   have ih0 := QaC.mono_l k
   · intro y0 y1 y2
     unfold QaC.l0
     repeat' first
     | (with_reducible exact ih0 _ _ _)
     | (with_reducible exact LeO.refl _)
     | (with_reducible exact LeO.none _)
     | (with_reducible refine LeO.ite ?_ ?_)
     | (with_reducible refine LeO.bind ?_ (fun _ => ?_))
     | exact ih0 _ _ _
     | exact LeO.none _
     | refine LeO.ite ?_ ?_
     | refine LeO.bind ?_ (fun _ => ?_)
theorem QaC.mono : ∀ a0 a1 k, LeO (QaC.f k a0 a1) (QaC.f (k + 1) a0 a1) := by
 intro a0 a1 k
 have ih0 := QaC.mono_l k
 unfold QaC.f
 repeat' first
  | (with_reducible exact ih0 _ _ _)
  | (with_reducible exact LeO.refl _)
  | (with_reducible exact LeO.none _)
  | (with_reducible refine LeO.ite ?_ ?_)
  | (with_reducible refine LeO.bind ?_ (fun _ => ?_))
  | exact ih0 _ _ _
  | exact LeO.none _
  | refine LeO.ite ?_ ?_
  | refine LeO.bind ?_ (fun _ => ?_)
set_option maxHeartbeats 8000000 in
set_option maxRecDepth 100000 in
theorem QaC.calls (k : Nat) (A0_0 : Option Addr) (c0_0 : Nat) (l0_0 : List (Qai)) (A1 : Option Addr) (c1 : Nat) (l1 : List (Qao)) (r : Bool) (w : World) (hr0_0 : Kd.C QaI w A0_0 l0_0.length l0_0) (hc0_0 : l0_0.length ≤ c0_0) (hr1 : Kd.C QaN w A1 l1.length l1) (hc1 : l1.length ≤ c1) (h : QaC.f k l0_0 l1 = some r) :
 Calls Try.prog 88 #[.agg #[.slice A0_0 l0_0.length c0_0], .slice A1 l1.length c1] w fun e w' => e = .returned (.bool r) ∧ Below w.heap.size w w' := by
 have hu25 := Try.underlying25
 have hu104 := Try.underlying104
 have HR0_0 := Aside0.mk hr0_0
 have HC0_0 := Aside0.mk hc0_0
 clear hr0_0 hc0_0
 have HR1 := Aside0.mk hr1
 have HC1 := Aside0.mk hc1
 clear hr1 hc1
 have HB := Aside0.mk (Below.refl w.heap.size w)
 have H : (QaC.l0 k l1 0 l0_0) = some r := h
 clear h
 have H' := Aside0.mk H
 clear H
 go_enter Try.func88, Try.ntmps88
 go_wp2_with (first | ((with_reducible refine Qaq (N := 2) rfl ?_); (try (refine Qbg (by rfl) ?_; dsimp only)); refine Qam ?hg (N := 2) ?hd (cs := #[.slice A0_0 l0_0.length c0_0]) (t := 25) ?hr ?_; (case hd => rfl); (case hg => rfl); (case hr => first | (go_simp; done) | (go_simp; rfl)); intro gb101 hg w3 hbox hb; have n0_ := Aside0.mk (Qac (bw_) hb); have n1_ := Aside0.mk (hbox); have n2_ := Aside0.mk ((gs_ hg bw_ : w.heap.size ≤ gb101)); have n3_ := Aside0.mk ((gs_ hg bw_ : w.heap.size ≤ gb101)); clear HB; have HB := n0_; have BK101 := n1_; have GW101 := n2_; have GE101 := n3_; clear n0_ n1_ n2_ n3_; clear hb hbox hg))
 go_loopg [5] k (fun kq v5 w' => ∃ (x5_1 : Int), v5 = .int .i64 x5_1 ∧ Aside0 (QaC.l0 kq l1 x5_1 l0_0 = some r) ∧ Aside0 (kq ≤ k) ∧ Aside0 (w'.heap[gb101]? = some (.cells #[(.slice A0_0 l0_0.length c0_0)] 25 (0, 0))) ∧ Aside0 (Below w.heap.size w w'))
 case atStart => exact ⟨(0), (by first | rfl | (simp; done) | (simp [*]; done)), H', ⟨Nat.le_refl _⟩, ⟨by (refine kb_ ?_); exact BK101.out⟩, ⟨bw_⟩⟩
 case round =>
  clear H'
  try clear c1
  try clear p2
  obtain ⟨x5_1, rfl, HA, HK1, BK101, HB⟩ := hrel
  cases gk with
  | zero => exact absurd HA.out (by simp [QaC.l0])
  | succ k1 =>
    have H := HA.out
    clear HA
    simp only [QaC.l0] at H
    by_cases c4 : x5_1 < (l1.length : Int)
    · rw [if_pos c4] at H
      have c4b0 : decide (x5_1 < (l1.length : Int)) = true := decide_eq_true c4
      clear c4
      by_cases c5 : 0 ≤ x5_1
      · rw [if_pos c5] at H
        have c5b0 : decide (0 ≤ x5_1) = true := decide_eq_true c5
        clear c5
        by_cases c6 : ((Qaw l1 x5_1).f0) = 2
        · rw [if_pos c6] at H
          have c6b0 : (((Qaw l1 x5_1).f0) == 2) = true := beq_iff_eq.mpr c6
          have c6b1 : (((Qaw l1 x5_1).f0) != 2) = false := bne_eq_false_iff_eq.mpr c6
          clear c6
          replace H := Option.bind_eq_some_iff.mp H
          obtain ⟨t104, A70, H⟩ := H
          replace H : (if t104 = true then (QaC.l0 k1 l1 (wrap64 (x5_1 + 1)) l0_0) else (some false)) = some r := H
          have A7 := Aside0.mk A70
          clear A70
          by_cases c8 : t104 = true
          · subst c8
            have H1 : (QaC.l0 k1 l1 (wrap64 (x5_1 + 1)) l0_0) = some r := by rw [if_pos rfl] at H; exact H
            clear H
            have H := H1
            clear H1
            have H' := Aside0.mk H
            clear H
            have p102 : 0 ≤ (x5_1 : Int) := of_decide_eq_true (by first | (with_reducible assumption) | assumption)
            have q102 : x5_1 < (l1.length : Int) := of_decide_eq_true (by first | (with_reducible assumption) | assumption)
            obtain ⟨ad102, e102, hx102_0, hx102_1⟩ := QbQ HR1.out x5_1 p102 q102
            cases e102
            replace hx102_0 := pc_ HB hx102_0
            replace hx102_1 := pc_ HB hx102_1
            replace p102 := eq_true p102
            replace q102 := eq_true q102
            go_wp2_with (first | ((with_reducible refine Qaq (N := 6) rfl ?_); (try (refine Qbg (by rfl) ?_; dsimp only)); refine Qam ?hg (N := 6) ?hd (cs := #[.int .i64 0, .int .i64 0]) (t := 104) ?hr ?_; (case hd => rfl); (case hg => rfl); (case hr => first | (go_simp; done) | (go_simp; rfl)); intro gb103 hg w9 hbox hb; have n0_ := Aside0.mk (bb_ BK101 hb); have n1_ := Aside0.mk (Qac (bw_) hb); have n2_ := Aside0.mk (hbox); have n3_ := Aside0.mk ((gs_ hg bw_ : w.heap.size ≤ gb103)); have n4_ := Aside0.mk ((gs_ hg bw_ : w.heap.size ≤ gb103)); have n5_ := Aside0.mk ((nl_ hg BK101 : gb101 ≠ gb103)); have n6_ := Aside0.mk ((ng_ hg BK101 : gb103 ≠ gb101)); clear BK101; clear HB; have BK101 := n0_; have HB := n1_; have BK103 := n2_; have GW103 := n3_; have GE103 := n4_; have NB101_103 := n5_; have NB103_101 := n6_; clear n0_ n1_ n2_ n3_ n4_ n5_ n6_; clear hb hbox hg; have hnb10 := NB103_101.out; have hnc10 := NB101_103.out; obtain ⟨hcz11_0, hcz11_1, hfz11_0, hfz11_1⟩ := QbN BK103.out; obtain ⟨hcz12_0, hfz12_0⟩ := QbM BK101.out) | (go_at_call 58; (with_reducible refine (Qav.calls ((Qaw l1 x5_1).f1) 0 (wrap64 ((l0_0.length : Int) - 1)) true _ A7.out).mono ?_); rintro e w' ⟨rfl, ⟨nd, rfl⟩⟩))
            go_roundg k1
            case measure => have := HK1.out; omega
            case rel => exact ⟨(wrap64 (x5_1 + 1)), (by first | rfl | (simp; done) | (simp [*]; done)), H', ⟨by have := HK1.out; omega⟩, ⟨by (refine kb_ ?_); refine Qar ?_ NB101_103.out _; (refine kb_ ?_); refine Qar ?_ NB101_103.out _; (refine kb_ ?_); exact BK101.out⟩, ⟨bw_⟩⟩
          · replace c8 := Bool.eq_false_iff.mpr c8
            subst c8
            have H1 : (some false) = some r := by rw [if_neg (show ¬ (false = true) by decide)] at H; exact H
            clear H
            have H := H1
            clear H1
            obtain rfl := Option.some.inj H
            have p102 : 0 ≤ (x5_1 : Int) := of_decide_eq_true (by first | (with_reducible assumption) | assumption)
            have q102 : x5_1 < (l1.length : Int) := of_decide_eq_true (by first | (with_reducible assumption) | assumption)
            obtain ⟨ad102, e102, hx102_0, hx102_1⟩ := QbQ HR1.out x5_1 p102 q102
            cases e102
            replace hx102_0 := pc_ HB hx102_0
            replace hx102_1 := pc_ HB hx102_1
            replace p102 := eq_true p102
            replace q102 := eq_true q102
            go_wp2_with (first | ((with_reducible refine Qaq (N := 6) rfl ?_); (try (refine Qbg (by rfl) ?_; dsimp only)); refine Qam ?hg (N := 6) ?hd (cs := #[.int .i64 0, .int .i64 0]) (t := 104) ?hr ?_; (case hd => rfl); (case hg => rfl); (case hr => first | (go_simp; done) | (go_simp; rfl)); intro gb103 hg w13 hbox hb; have n0_ := Aside0.mk (bb_ BK101 hb); have n1_ := Aside0.mk (Qac (bw_) hb); have n2_ := Aside0.mk (hbox); have n3_ := Aside0.mk ((gs_ hg bw_ : w.heap.size ≤ gb103)); have n4_ := Aside0.mk ((gs_ hg bw_ : w.heap.size ≤ gb103)); have n5_ := Aside0.mk ((nl_ hg BK101 : gb101 ≠ gb103)); have n6_ := Aside0.mk ((ng_ hg BK101 : gb103 ≠ gb101)); clear BK101; clear HB; have BK101 := n0_; have HB := n1_; have BK103 := n2_; have GW103 := n3_; have GE103 := n4_; have NB101_103 := n5_; have NB103_101 := n6_; clear n0_ n1_ n2_ n3_ n4_ n5_ n6_; clear hb hbox hg; have hnb14 := NB103_101.out; have hnc14 := NB101_103.out; obtain ⟨hcz15_0, hcz15_1, hfz15_0, hfz15_1⟩ := QbN BK103.out; obtain ⟨hcz16_0, hfz16_0⟩ := QbM BK101.out) | (go_at_call 58; (with_reducible refine (Qav.calls ((Qaw l1 x5_1).f1) 0 (wrap64 ((l0_0.length : Int) - 1)) false _ A7.out).mono ?_); rintro e w' ⟨rfl, ⟨nd, rfl⟩⟩))
            go_ret
            exact ⟨by first | rfl | (simp [Qaf, Qag] <;> rfl) | (simp [*, Qaf, Qag] <;> rfl), bw_⟩
        · rw [if_neg c6] at H
          have c6b0 : (((Qaw l1 x5_1).f0) == 2) = false := beq_eq_false_iff_ne.mpr c6
          have c6b1 : (((Qaw l1 x5_1).f0) != 2) = true := bne_iff_ne.mpr c6
          replace H := Option.bind_eq_some_iff.mp H
          obtain ⟨t105, A170, H⟩ := H
          replace H : (if t105 = true then (QaC.l0 k1 l1 (wrap64 (x5_1 + 1)) l0_0) else (some false)) = some r := H
          have A17 := Aside0.mk A170
          clear A170
          by_cases c18 : t105 = true
          · subst c18
            have H1 : (QaC.l0 k1 l1 (wrap64 (x5_1 + 1)) l0_0) = some r := by rw [if_pos rfl] at H; exact H
            clear H
            have H := H1
            clear H1
            have H' := Aside0.mk H
            clear H
            have p102 : 0 ≤ (x5_1 : Int) := of_decide_eq_true (by first | (with_reducible assumption) | assumption)
            have q102 : x5_1 < (l1.length : Int) := of_decide_eq_true (by first | (with_reducible assumption) | assumption)
            obtain ⟨ad102, e102, hx102_0, hx102_1⟩ := QbQ HR1.out x5_1 p102 q102
            cases e102
            replace hx102_0 := pc_ HB hx102_0
            replace hx102_1 := pc_ HB hx102_1
            replace p102 := eq_true p102
            replace q102 := eq_true q102
            go_wp2_with (first | ((with_reducible refine Qaq (N := 6) rfl ?_); (try (refine Qbg (by rfl) ?_; dsimp only)); refine Qam ?hg (N := 6) ?hd (cs := #[.int .i64 0, .int .i64 0]) (t := 104) ?hr ?_; (case hd => rfl); (case hg => rfl); (case hr => first | (go_simp; done) | (go_simp; rfl)); intro gb103 hg w19 hbox hb; have n0_ := Aside0.mk (bb_ BK101 hb); have n1_ := Aside0.mk (Qac (bw_) hb); have n2_ := Aside0.mk (hbox); have n3_ := Aside0.mk ((gs_ hg bw_ : w.heap.size ≤ gb103)); have n4_ := Aside0.mk ((gs_ hg bw_ : w.heap.size ≤ gb103)); have n5_ := Aside0.mk ((nl_ hg BK101 : gb101 ≠ gb103)); have n6_ := Aside0.mk ((ng_ hg BK101 : gb103 ≠ gb101)); clear BK101; clear HB; have BK101 := n0_; have HB := n1_; have BK103 := n2_; have GW103 := n3_; have GE103 := n4_; have NB101_103 := n5_; have NB103_101 := n6_; clear n0_ n1_ n2_ n3_ n4_ n5_ n6_; clear hb hbox hg; have hnb20 := NB103_101.out; have hnc20 := NB101_103.out; obtain ⟨hcz21_0, hcz21_1, hfz21_0, hfz21_1⟩ := QbN BK103.out) | (go_at_call 122; (with_reducible refine (QbZ.calls ((Qaw l1 x5_1).f0) ((Qaw l1 x5_1).f1) 0 true _ A17.out).mono ?_); rintro e w22 ⟨rfl, hb⟩; have n0_ := Aside0.mk (QaV (g := gb101) (o := .cells #[.slice A0_0 l0_0.length c0_0] 25 (0, 0)) (by (refine kb_ ?_); refine Qar ?_ NB101_103.out _; (refine kb_ ?_); refine Qar ?_ NB101_103.out _; (refine kb_ ?_); exact BK101.out) hb); have n1_ := Aside0.mk (QaV (g := gb103) (o := .cells #[.int .i64 ((Qaw l1 x5_1).f0), .int .i64 ((Qaw l1 x5_1).f1)] 104 (0, 0)) (by (refine kb_ ?_); refine Qa1 (cs := #[.int .i64 ((Qaw l1 x5_1).f0), .int .i64 0]) ?_ 1 _ rfl; (refine kb_ ?_); refine Qa1 (cs := #[.int .i64 0, .int .i64 0]) ?_ 0 _ rfl; (refine kb_ ?_); exact BK103.out) hb); have n2_ := Aside0.mk (Qac (bw_) hb); clear BK101; clear BK103; clear HB; have BK101 := n0_; have BK103 := n1_; have HB := n2_; clear n0_ n1_ n2_; (try clear hb); (try clear hb2); (try clear hk); (try clear hi)))
            go_roundg k1
            case measure => have := HK1.out; omega
            case rel => exact ⟨(wrap64 (x5_1 + 1)), (by first | rfl | (simp; done) | (simp [*]; done)), H', ⟨by have := HK1.out; omega⟩, ⟨by (refine kb_ ?_); exact BK101.out⟩, ⟨bw_⟩⟩
          · replace c18 := Bool.eq_false_iff.mpr c18
            subst c18
            have H1 : (some false) = some r := by rw [if_neg (show ¬ (false = true) by decide)] at H; exact H
            clear H
            have H := H1
            clear H1
            obtain rfl := Option.some.inj H
            have p102 : 0 ≤ (x5_1 : Int) := of_decide_eq_true (by first | (with_reducible assumption) | assumption)
            have q102 : x5_1 < (l1.length : Int) := of_decide_eq_true (by first | (with_reducible assumption) | assumption)
            obtain ⟨ad102, e102, hx102_0, hx102_1⟩ := QbQ HR1.out x5_1 p102 q102
            cases e102
            replace hx102_0 := pc_ HB hx102_0
            replace hx102_1 := pc_ HB hx102_1
            replace p102 := eq_true p102
            replace q102 := eq_true q102
            go_wp2_with (first | ((with_reducible refine Qaq (N := 6) rfl ?_); (try (refine Qbg (by rfl) ?_; dsimp only)); refine Qam ?hg (N := 6) ?hd (cs := #[.int .i64 0, .int .i64 0]) (t := 104) ?hr ?_; (case hd => rfl); (case hg => rfl); (case hr => first | (go_simp; done) | (go_simp; rfl)); intro gb103 hg w23 hbox hb; have n0_ := Aside0.mk (bb_ BK101 hb); have n1_ := Aside0.mk (Qac (bw_) hb); have n2_ := Aside0.mk (hbox); have n3_ := Aside0.mk ((gs_ hg bw_ : w.heap.size ≤ gb103)); have n4_ := Aside0.mk ((gs_ hg bw_ : w.heap.size ≤ gb103)); have n5_ := Aside0.mk ((nl_ hg BK101 : gb101 ≠ gb103)); have n6_ := Aside0.mk ((ng_ hg BK101 : gb103 ≠ gb101)); clear BK101; clear HB; have BK101 := n0_; have HB := n1_; have BK103 := n2_; have GW103 := n3_; have GE103 := n4_; have NB101_103 := n5_; have NB103_101 := n6_; clear n0_ n1_ n2_ n3_ n4_ n5_ n6_; clear hb hbox hg; have hnb24 := NB103_101.out; have hnc24 := NB101_103.out; obtain ⟨hcz25_0, hcz25_1, hfz25_0, hfz25_1⟩ := QbN BK103.out) | (go_at_call 122; (with_reducible refine (QbZ.calls ((Qaw l1 x5_1).f0) ((Qaw l1 x5_1).f1) 0 false _ A17.out).mono ?_); rintro e w26 ⟨rfl, hb⟩; have n0_ := Aside0.mk (QaV (g := gb101) (o := .cells #[.slice A0_0 l0_0.length c0_0] 25 (0, 0)) (by (refine kb_ ?_); refine Qar ?_ NB101_103.out _; (refine kb_ ?_); refine Qar ?_ NB101_103.out _; (refine kb_ ?_); exact BK101.out) hb); have n1_ := Aside0.mk (QaV (g := gb103) (o := .cells #[.int .i64 ((Qaw l1 x5_1).f0), .int .i64 ((Qaw l1 x5_1).f1)] 104 (0, 0)) (by (refine kb_ ?_); refine Qa1 (cs := #[.int .i64 ((Qaw l1 x5_1).f0), .int .i64 0]) ?_ 1 _ rfl; (refine kb_ ?_); refine Qa1 (cs := #[.int .i64 0, .int .i64 0]) ?_ 0 _ rfl; (refine kb_ ?_); exact BK103.out) hb); have n2_ := Aside0.mk (Qac (bw_) hb); clear BK101; clear BK103; clear HB; have BK101 := n0_; have BK103 := n1_; have HB := n2_; clear n0_ n1_ n2_; (try clear hb); (try clear hb2); (try clear hk); (try clear hi)))
            go_ret
            exact ⟨by first | rfl | (simp [Qaf, Qag] <;> rfl) | (simp [*, Qaf, Qag] <;> rfl), bw_⟩
      · rw [if_neg c5] at H
        exact absurd H (by simp)
    · rw [if_neg c4] at H
      have c4b0 : decide (x5_1 < (l1.length : Int)) = false := decide_eq_false c4
      clear c4
      obtain rfl := Option.some.inj H
      go_wp2
      go_ret
      exact ⟨by first | rfl | (simp [Qaf, Qag] <;> rfl) | (simp [*, Qaf, Qag] <;> rfl), bw_⟩
end Go.Proofs.Ytabcijheemjplaa.G
namespace Go.Proofs.Ytabcijheemjplaa.G
open Go.RowKit Go.Proofs.YtabcijheemjplaaW.PrintWords Go.Proofs.YtabcijheemjplaaW.PrintLast Go.Proofs.YtabcijheemjplaaW.PrintMore
attribute [local go_sem] Qa3 Qa4 Qbc Qbd QaP QaQ Qa5 Qa6
set_option linter.unusedVariables false
set_option linter.unusedSimpArgs false
def QaF.l0 : Nat → List Int → Int → List (Qas) → Int → Int → List (Qao) → Int → Option (Bool)
 | 0, _, _, _, _, _, _, _ => none
 | k + 1, x3, x4, x102000, x102001, x102002, x102003, x102004 => if x4 < (x3.length : Int) then (if 0 ≤ x4 then (if 0 ≤ (rd x3 x4) then (if (rd x3 x4) < (x102000.length : Int) then (if (((Qaa x102000 (rd x3 x4)).f3).length : Int) ≥ 6 then (some false) else (QaF.l0 k x3 (wrap64 (x4 + 1)) x102000 x102001 x102002 x102003 x102004)) else (none)) else (none)) else (none)) else (some true)
def QaF.f (k : Nat) (l0_0 : List (Qas)) (a0_1 : Int) (a0_2 : Int) (l0_3 : List (Qao)) (a0_4 : Int) : Option (Bool) := (Qau.f k l0_0 a0_1 a0_2 l0_3 a0_4).bind fun t102 => (QaF.l0 k t102 1 l0_0 a0_1 a0_2 l0_3 a0_4)
theorem QaF.mono_l : ∀ k, (∀ y0 y1 y2 y3 y4 y5 y6, LeO (QaF.l0 k y0 y1 y2 y3 y4 y5 y6) (QaF.l0 (k + 1) y0 y1 y2 y3 y4 y5 y6))
 | 0 => fun _ _ _ _ _ _ _ r h => by simp [QaF.l0] at h
 | k + 1 => by
   have ih0 := QaF.mono_l k
   · intro y0 y1 y2 y3 y4 y5 y6
     unfold QaF.l0
     repeat' first
     | (with_reducible exact ih0 _ _ _ _ _ _ _)
     | (with_reducible exact Qau.mono _ _ _ _ _ _)
     | (with_reducible exact LeO.refl _)
     | (with_reducible exact LeO.none _)
     | (with_reducible refine LeO.ite ?_ ?_)
     | (with_reducible refine LeO.bind ?_ (fun _ => ?_))
     | exact ih0 _ _ _ _ _ _ _
     | exact Qau.mono _ _ _ _ _ _
     | exact LeO.none _
     | refine LeO.ite ?_ ?_
     | refine LeO.bind ?_ (fun _ => ?_)
theorem QaF.mono : ∀ a0 a1 a2 a3 a4 k, LeO (QaF.f k a0 a1 a2 a3 a4) (QaF.f (k + 1) a0 a1 a2 a3 a4) := by
 intro a0 a1 a2 a3 a4 k
 have ih0 := QaF.mono_l k
 unfold QaF.f
 repeat' first
  | (with_reducible exact ih0 _ _ _ _ _ _ _)
  | (with_reducible exact Qau.mono _ _ _ _ _ _)
  | (with_reducible exact LeO.refl _)
  | (with_reducible exact LeO.none _)
  | (with_reducible refine LeO.ite ?_ ?_)
  | (with_reducible refine LeO.bind ?_ (fun _ => ?_))
  | exact ih0 _ _ _ _ _ _ _
  | exact Qau.mono _ _ _ _ _ _
  | exact LeO.none _
  | refine LeO.ite ?_ ?_
  | refine LeO.bind ?_ (fun _ => ?_)
set_option maxHeartbeats 8000000 in
set_option maxRecDepth 100000 in
theorem QaF.calls (k : Nat) (A0_0 : Option Addr) (c0_0 : Nat) (l0_0 : List (Qas)) (a0_1 : Int) (a0_2 : Int) (A0_3 : Option Addr) (c0_3 : Nat) (l0_3 : List (Qao)) (a0_4 : Int) (r : Bool) (w : World) (hr0_0 : Kd.C Qa_ w A0_0 l0_0.length l0_0) (hc0_0 : l0_0.length ≤ c0_0) (hr0_3 : Kd.C QaN w A0_3 l0_3.length l0_3) (hc0_3 : l0_3.length ≤ c0_3) (h : QaF.f k l0_0 a0_1 a0_2 l0_3 a0_4 = some r) :
 Calls Try.prog 91 #[.agg #[.slice A0_0 l0_0.length c0_0, .int .i64 a0_1, .int .i64 a0_2, .slice A0_3 l0_3.length c0_3, .int .i64 a0_4]] w fun e w' => e = .returned (.bool r) ∧ Below w.heap.size w w' := by
 have hu46 := Try.underlying46
 have HR0_0 := Aside0.mk hr0_0
 have HC0_0 := Aside0.mk hc0_0
 clear hr0_0 hc0_0
 have HR0_3 := Aside0.mk hr0_3
 have HC0_3 := Aside0.mk hc0_3
 clear hr0_3 hc0_3
 have HB := Aside0.mk (Below.refl w.heap.size w)
 have H : ((Qau.f k l0_0 a0_1 a0_2 l0_3 a0_4).bind fun t102 => (QaF.l0 k t102 1 l0_0 a0_1 a0_2 l0_3 a0_4)) = some r := h
 clear h
 replace H := Option.bind_eq_some_iff.mp H
 obtain ⟨t102, A20, H⟩ := H
 replace H : (QaF.l0 k t102 1 l0_0 a0_1 a0_2 l0_3 a0_4) = some r := H
 have A2 := Aside0.mk A20
 clear A20
 have H' := Aside0.mk H
 clear H
 go_enter Try.func91, Try.ntmps91
 go_wp2_with (first | ((with_reducible refine Qaq (N := 1) rfl ?_); refine Qam ?hg (N := 1) ?hd (cs := #[.slice A0_0 l0_0.length c0_0, .int .i64 a0_1, .int .i64 a0_2, .slice A0_3 l0_3.length c0_3, .int .i64 a0_4]) (t := 46) ?hr ?_; (case hd => rfl); (case hg => rfl); (case hr => first | (go_simp; done) | (go_simp; rfl)); intro gb101 hg w3 hbox hb; have n0_ := Aside0.mk (Qac (bw_) hb); have n1_ := Aside0.mk (hbox); have n2_ := Aside0.mk ((gs_ hg bw_ : w.heap.size ≤ gb101)); have n3_ := Aside0.mk ((gs_ hg bw_ : w.heap.size ≤ gb101)); clear HB; have HB := n0_; have BK101 := n1_; have GW101 := n2_; have GE101 := n3_; clear n0_ n1_ n2_ n3_; clear hb hbox hg; obtain ⟨hcz4_0, hcz4_1, hcz4_2, hcz4_3, hcz4_4, hfz4_0, hfz4_1, hfz4_2, hfz4_3, hfz4_4⟩ := Qbe BK101.out) | (go_at_call 90; (with_reducible refine (Qau.calls k _ _ l0_0 a0_1 a0_2 _ _ l0_3 a0_4 t102 _ ?side1 ?side2 ?side3 ?side4 A2.out).mono ?_); (case side1 => exact cb_); (case side2 => exact HC0_0.out); (case side3 => exact cb_); (case side4 => exact HC0_3.out); rintro e w5 ⟨v103, rfl, ho0, hb⟩; have n0_ := Aside0.mk (Kd.R_lower ho0 (QaE (bw_))); have n1_ := Aside0.mk (bb_ BK101 hb); have n2_ := Aside0.mk (Qac (bw_) hb); clear BK101; clear HB; have HO104 := n0_; have BK101 := n1_; have HB := n2_; clear n0_ n1_ n2_; (try clear hb); (try clear hb2); (try clear hk); (try clear hi); (try clear ho0)))
 repeat (go_quiet (first | ((with_reducible refine Qaq (N := 1) rfl ?_); refine Qam ?hg (N := 1) ?hd (cs := #[.slice A0_0 l0_0.length c0_0, .int .i64 a0_1, .int .i64 a0_2, .slice A0_3 l0_3.length c0_3, .int .i64 a0_4]) (t := 46) ?hr ?_; (case hd => rfl); (case hg => rfl); (case hr => first | (go_simp; done) | (go_simp; rfl)); intro gb101 hg w3 hbox hb; have n0_ := Aside0.mk (Qac (bw_) hb); have n1_ := Aside0.mk (hbox); have n2_ := Aside0.mk ((gs_ hg bw_ : w.heap.size ≤ gb101)); have n3_ := Aside0.mk ((gs_ hg bw_ : w.heap.size ≤ gb101)); clear HB; have HB := n0_; have BK101 := n1_; have GW101 := n2_; have GE101 := n3_; clear n0_ n1_ n2_ n3_; clear hb hbox hg; obtain ⟨hcz4_0, hcz4_1, hcz4_2, hcz4_3, hcz4_4, hfz4_0, hfz4_1, hfz4_2, hfz4_3, hfz4_4⟩ := Qbe BK101.out) | (go_at_call 90; (with_reducible refine (Qau.calls k _ _ l0_0 a0_1 a0_2 _ _ l0_3 a0_4 t102 _ ?side1 ?side2 ?side3 ?side4 A2.out).mono ?_); (case side1 => exact cb_); (case side2 => exact HC0_0.out); (case side3 => exact cb_); (case side4 => exact HC0_3.out); rintro e w5 ⟨v103, rfl, ho0, hb⟩; have n0_ := Aside0.mk (Kd.R_lower ho0 (QaE (bw_))); have n1_ := Aside0.mk (bb_ BK101 hb); have n2_ := Aside0.mk (Qac (bw_) hb); clear BK101; clear HB; have HO104 := n0_; have BK101 := n1_; have HB := n2_; clear n0_ n1_ n2_; (try clear hb); (try clear hb2); (try clear hk); (try clear hi); (try clear ho0))); try go_wp2_with (first | ((with_reducible refine Qaq (N := 1) rfl ?_); refine Qam ?hg (N := 1) ?hd (cs := #[.slice A0_0 l0_0.length c0_0, .int .i64 a0_1, .int .i64 a0_2, .slice A0_3 l0_3.length c0_3, .int .i64 a0_4]) (t := 46) ?hr ?_; (case hd => rfl); (case hg => rfl); (case hr => first | (go_simp; done) | (go_simp; rfl)); intro gb101 hg w3 hbox hb; have n0_ := Aside0.mk (Qac (bw_) hb); have n1_ := Aside0.mk (hbox); have n2_ := Aside0.mk ((gs_ hg bw_ : w.heap.size ≤ gb101)); have n3_ := Aside0.mk ((gs_ hg bw_ : w.heap.size ≤ gb101)); clear HB; have HB := n0_; have BK101 := n1_; have GW101 := n2_; have GE101 := n3_; clear n0_ n1_ n2_ n3_; clear hb hbox hg; obtain ⟨hcz4_0, hcz4_1, hcz4_2, hcz4_3, hcz4_4, hfz4_0, hfz4_1, hfz4_2, hfz4_3, hfz4_4⟩ := Qbe BK101.out) | (go_at_call 90; (with_reducible refine (Qau.calls k _ _ l0_0 a0_1 a0_2 _ _ l0_3 a0_4 t102 _ ?side1 ?side2 ?side3 ?side4 A2.out).mono ?_); (case side1 => exact cb_); (case side2 => exact HC0_0.out); (case side3 => exact cb_); (case side4 => exact HC0_3.out); rintro e w5 ⟨v103, rfl, ho0, hb⟩; have n0_ := Aside0.mk (Kd.R_lower ho0 (QaE (bw_))); have n1_ := Aside0.mk (bb_ BK101 hb); have n2_ := Aside0.mk (Qac (bw_) hb); clear BK101; clear HB; have HO104 := n0_; have BK101 := n1_; have HB := n2_; clear n0_ n1_ n2_; (try clear hb); (try clear hb2); (try clear hk); (try clear hi); (try clear ho0))))
 go_loopg [4] k (fun kq v4 w' => ∃ (x4_1 : Int), v4 = .int .i64 x4_1 ∧ Aside0 (QaF.l0 kq t102 x4_1 l0_0 a0_1 a0_2 l0_3 a0_4 = some r) ∧ Aside0 (kq ≤ k) ∧ Aside0 (Kd.R (Kd.int .i64) 3 w' w.heap.size (fun _ => True) v103 t102) ∧ Aside0 (w'.heap[gb101]? = some (.cells #[(.slice A0_0 l0_0.length c0_0), .int .i64 a0_1, .int .i64 a0_2, (.slice A0_3 l0_3.length c0_3), .int .i64 a0_4] 46 (0, 0))) ∧ Aside0 (Below w.heap.size w w'))
 case atStart => exact ⟨(1), (by first | rfl | (simp; done) | (simp [*]; done)), H', ⟨Nat.le_refl _⟩, ⟨by (refine QbI ?_); exact HO104.out⟩, ⟨by (refine kb_ ?_); exact BK101.out⟩, ⟨bw_⟩⟩
 case round =>
  clear H'
  try clear p2
  try clear hcz4_0
  try clear hcz4_1
  try clear hcz4_2
  try clear hcz4_3
  try clear hcz4_4
  try clear hfz4_0
  try clear hfz4_1
  try clear hfz4_2
  try clear hfz4_3
  try clear hfz4_4
  obtain ⟨x4_1, rfl, HA, HK1, HO_3, BK101, HB⟩ := hrel
  cases gk with
  | zero => exact absurd HA.out (by simp [QaF.l0])
  | succ k1 =>
    have H := HA.out
    clear HA
    simp only [QaF.l0] at H
    by_cases c6 : x4_1 < (t102.length : Int)
    · rw [if_pos c6] at H
      have c6b0 : decide (x4_1 < (t102.length : Int)) = true := decide_eq_true c6
      clear c6
      by_cases c7 : 0 ≤ x4_1
      · rw [if_pos c7] at H
        have c7b0 : decide (0 ≤ x4_1) = true := decide_eq_true c7
        clear c7
        by_cases c8 : 0 ≤ (rd t102 x4_1)
        · rw [if_pos c8] at H
          have c8b0 : decide (0 ≤ (rd t102 x4_1)) = true := decide_eq_true c8
          clear c8
          by_cases c9 : (rd t102 x4_1) < (l0_0.length : Int)
          · rw [if_pos c9] at H
            have c9b0 : decide ((rd t102 x4_1) < (l0_0.length : Int)) = true := decide_eq_true c9
            clear c9
            by_cases c10 : (((Qaa l0_0 (rd t102 x4_1)).f3).length : Int) ≥ 6
            · rw [if_pos c10] at H
              have c10b0 : decide (6 ≤ (((Qaa l0_0 (rd t102 x4_1)).f3).length : Int)) = true := decide_eq_true c10
              have c10b1 : decide (6 ≤ ((Qaa l0_0 (rd t102 x4_1)).f3).length) = true := decide_eq_true (by omega)
              clear c10
              obtain rfl := Option.some.inj H
              obtain ⟨Ao11, co11, eo11⟩ := Kd.R_slice HO_3.out
              subst eo11
              have hcz12_0 : wr.cell? ⟨gb101, 0, none⟩ = some (.slice A0_0 l0_0.length c0_0) := (Qab BK101.out 0).trans rfl
              have hcz12_1 : wr.cell? ⟨gb101, 1, none⟩ = some (.int .i64 a0_1) := (Qab BK101.out 1).trans rfl
              have hcz12_2 : wr.cell? ⟨gb101, 2, none⟩ = some (.int .i64 a0_2) := (Qab BK101.out 2).trans rfl
              have hcz12_3 : wr.cell? ⟨gb101, 3, none⟩ = some (.slice A0_3 l0_3.length c0_3) := (Qab BK101.out 3).trans rfl
              have hcz12_4 : wr.cell? ⟨gb101, 4, none⟩ = some (.int .i64 a0_4) := (Qab BK101.out 4).trans rfl
              have hfz12_0 := Qad BK101.out 0
              have hfz12_1 := Qad BK101.out 1
              have hfz12_2 := Qad BK101.out 2
              have hfz12_3 := Qad BK101.out 3
              have hfz12_4 := Qad BK101.out 4
              have p105 : 0 ≤ (x4_1 : Int) := of_decide_eq_true (by first | (with_reducible assumption) | assumption)
              have q105 : x4_1 < (t102.length : Int) := of_decide_eq_true (by first | (with_reducible assumption) | assumption)
              obtain ⟨ad105, e105, hx105_0⟩ := Kd.at_int (Kd.R_reads' HO_3.out).2.2 x4_1 p105 q105
              cases e105
              replace p105 := eq_true p105
              replace q105 := eq_true q105
              have p106 : 0 ≤ ((rd t102 x4_1) : Int) := of_decide_eq_true (by first | (with_reducible assumption) | assumption)
              have q106 : (rd t102 x4_1) < (l0_0.length : Int) := of_decide_eq_true (by first | (with_reducible assumption) | assumption)
              obtain ⟨ad106, A106_2, c106_2, A106_3, c106_3, e106, hx106_0, hx106_1, hx106_2, hx106_3, hx106_4, hx106_5, hl106_2, hi106_2, hl106_3, hi106_3⟩ := Qa9 HR0_0.out (rd t102 x4_1) p106 q106
              cases e106
              replace hx106_0 := pc_ HB hx106_0
              replace hx106_1 := pc_ HB hx106_1
              replace hx106_2 := pc_ HB hx106_2
              replace hx106_3 := pc_ HB hx106_3
              replace hx106_4 := pc_ HB hx106_4
              replace hx106_5 := pc_ HB hx106_5
              have HR106_2 := Aside0.mk hi106_2
              have HC106_2 := Aside0.mk hl106_2
              clear hi106_2 hl106_2
              have HR106_3 := Aside0.mk hi106_3
              have HC106_3 := Aside0.mk hl106_3
              clear hi106_3 hl106_3
              replace p106 := eq_true p106
              replace q106 := eq_true q106
              go_wp2
              repeat (go_quiet (fail); try go_wp2)
              go_ret
              exact ⟨by first | rfl | (simp [Qaf, Qag] <;> rfl) | (simp [*, Qaf, Qag] <;> rfl), bw_⟩
            · rw [if_neg c10] at H
              have c10b0 : decide (6 ≤ (((Qaa l0_0 (rd t102 x4_1)).f3).length : Int)) = false := decide_eq_false c10
              have c10b1 : decide (6 ≤ ((Qaa l0_0 (rd t102 x4_1)).f3).length) = false := decide_eq_false (by omega)
              clear c10
              have H' := Aside0.mk H
              clear H
              obtain ⟨Ao13, co13, eo13⟩ := Kd.R_slice HO_3.out
              subst eo13
              have hcz14_0 : wr.cell? ⟨gb101, 0, none⟩ = some (.slice A0_0 l0_0.length c0_0) := (Qab BK101.out 0).trans rfl
              have hcz14_1 : wr.cell? ⟨gb101, 1, none⟩ = some (.int .i64 a0_1) := (Qab BK101.out 1).trans rfl
              have hcz14_2 : wr.cell? ⟨gb101, 2, none⟩ = some (.int .i64 a0_2) := (Qab BK101.out 2).trans rfl
              have hcz14_3 : wr.cell? ⟨gb101, 3, none⟩ = some (.slice A0_3 l0_3.length c0_3) := (Qab BK101.out 3).trans rfl
              have hcz14_4 : wr.cell? ⟨gb101, 4, none⟩ = some (.int .i64 a0_4) := (Qab BK101.out 4).trans rfl
              have hfz14_0 := Qad BK101.out 0
              have hfz14_1 := Qad BK101.out 1
              have hfz14_2 := Qad BK101.out 2
              have hfz14_3 := Qad BK101.out 3
              have hfz14_4 := Qad BK101.out 4
              have p105 : 0 ≤ (x4_1 : Int) := of_decide_eq_true (by first | (with_reducible assumption) | assumption)
              have q105 : x4_1 < (t102.length : Int) := of_decide_eq_true (by first | (with_reducible assumption) | assumption)
              obtain ⟨ad105, e105, hx105_0⟩ := Kd.at_int (Kd.R_reads' HO_3.out).2.2 x4_1 p105 q105
              cases e105
              replace p105 := eq_true p105
              replace q105 := eq_true q105
              have p106 : 0 ≤ ((rd t102 x4_1) : Int) := of_decide_eq_true (by first | (with_reducible assumption) | assumption)
              have q106 : (rd t102 x4_1) < (l0_0.length : Int) := of_decide_eq_true (by first | (with_reducible assumption) | assumption)
              obtain ⟨ad106, A106_2, c106_2, A106_3, c106_3, e106, hx106_0, hx106_1, hx106_2, hx106_3, hx106_4, hx106_5, hl106_2, hi106_2, hl106_3, hi106_3⟩ := Qa9 HR0_0.out (rd t102 x4_1) p106 q106
              cases e106
              replace hx106_0 := pc_ HB hx106_0
              replace hx106_1 := pc_ HB hx106_1
              replace hx106_2 := pc_ HB hx106_2
              replace hx106_3 := pc_ HB hx106_3
              replace hx106_4 := pc_ HB hx106_4
              replace hx106_5 := pc_ HB hx106_5
              have HR106_2 := Aside0.mk hi106_2
              have HC106_2 := Aside0.mk hl106_2
              clear hi106_2 hl106_2
              have HR106_3 := Aside0.mk hi106_3
              have HC106_3 := Aside0.mk hl106_3
              clear hi106_3 hl106_3
              replace p106 := eq_true p106
              replace q106 := eq_true q106
              go_wp2
              repeat (go_quiet (fail); try go_wp2)
              go_roundg k1
              case measure => have := HK1.out; omega
              case rel => exact ⟨(wrap64 (x4_1 + 1)), (by first | rfl | (simp; done) | (simp [*]; done)), H', ⟨by have := HK1.out; omega⟩, ⟨by (refine QbI ?_); exact HO_3.out⟩, ⟨by (refine kb_ ?_); exact BK101.out⟩, ⟨bw_⟩⟩
          · rw [if_neg c9] at H
            exact absurd H (by simp)
        · rw [if_neg c8] at H
          exact absurd H (by simp)
      · rw [if_neg c7] at H
        exact absurd H (by simp)
    · rw [if_neg c6] at H
      have c6b0 : decide (x4_1 < (t102.length : Int)) = false := decide_eq_false c6
      clear c6
      obtain rfl := Option.some.inj H
      obtain ⟨Ao15, co15, eo15⟩ := Kd.R_slice HO_3.out
      subst eo15
      go_wp2
      repeat (go_quiet (fail); try go_wp2)
      go_ret
      exact ⟨by first | rfl | (simp [Qaf, Qag] <;> rfl) | (simp [*, Qaf, Qag] <;> rfl), bw_⟩
end Go.Proofs.Ytabcijheemjplaa.G
namespace Go.Proofs.Ytabcijheemjplaa.G
open Go.RowKit Go.Proofs.YtabcijheemjplaaW.PrintWords Go.Proofs.YtabcijheemjplaaW.PrintLast Go.Proofs.YtabcijheemjplaaW.PrintMore
attribute [local go_sem] Qa3 Qa4 Qbc Qbd QaP QaQ Qa5 Qa6
set_option linter.unusedVariables false
set_option linter.unusedSimpArgs false
mutual
def Qah.j0 : Nat → Int → Bool → List (Qai) → List (Qas) → Int → Int → List (Qao) → Int → Option (Bool)
 | 0, _, _, _, _, _, _, _, _ => none
 | k + 1, x5, x55, x102000, x103000, x103001, x103002, x103003, x103004 => if x55 = true then (some false) else (Qah.l0 k x5 0 0 x102000 x103000 x103001 x103002 x103003 x103004)
def Qah.l0 : Nat → Int → Int → Int → List (Qai) → List (Qas) → Int → Int → List (Qao) → Int → Option (Bool)
 | 0, _, _, _, _, _, _, _, _, _ => none
 | k + 1, x5, x6, x7, x102000, x103000, x103001, x103002, x103003, x103004 => if x7 < x5 then (if 0 ≤ x7 then (if x7 < (x103000.length : Int) then ((Qat.f k x102000 ((Qaa x103000 x7).f0) ((Qaa x103000 x7).f1) ((Qaa x103000 x7).f2) ((Qaa x103000 x7).f3) ((Qaa x103000 x7).f4) ((Qaa x103000 x7).f5) x5).bind fun t118 => (if t118 = true then (if ((Qaa x103000 x7).f5 = true) then (Qah.l0 k x5 x6 (wrap64 (x7 + 1)) x102000 x103000 x103001 x103002 x103003 x103004) else (Qah.l0 k x5 (wrap64 (x6 + 1)) (wrap64 (x7 + 1)) x102000 x103000 x103001 x103002 x103003 x103004)) else (some false))) else (none)) else (none)) else (if x103001 < 0 then ((Qau.f k x103000 x103001 x103002 x103003 x103004).bind fun t108 => (if (t108.length : Int) = x6 then ((QaF.f k x103000 x103001 x103002 x103003 x103004).bind fun t111 => (some t111)) else (some false))) else (if 0 ≤ x103001 then (if x103001 < (x103000.length : Int) then (if ((Qaa x103000 x103001).f5 = true) then (some false) else ((Qau.f k x103000 x103001 x103002 x103003 x103004).bind fun t113 => (if (t113.length : Int) = x6 then ((QaF.f k x103000 x103001 x103002 x103003 x103004).bind fun t116 => (some t116)) else (some false)))) else (none)) else (none)))
end
def Qah.f (k : Nat) (l0_0 : List (Qai)) (l1_0 : List (Qas)) (a1_1 : Int) (a1_2 : Int) (l1_3 : List (Qao)) (a1_4 : Int) : Option (Bool) := (Qax.f k l0_0).bind fun t103 => (if t103 = true then ((Qav.f a1_1 (-1) (wrap64 ((l1_0.length : Int) - 1))).bind fun t104 => (if t104 = true then ((Qav.f a1_2 1 30).bind fun t105 => (if t105 = true then (if (l1_0.length : Int) > a1_2 then (Qah.j0 k (l1_0.length : Int) true l0_0 l1_0 a1_1 a1_2 l1_3 a1_4) else ((Qav.f a1_4 0 3).bind fun t106 => (if t106 = true then ((QaC.f k l0_0 l1_3).bind fun t107 => (if t107 = true then (Qah.j0 k (l1_0.length : Int) ((a1_4 == 1) != (decide (a1_1 < 0))) l0_0 l1_0 a1_1 a1_2 l1_3 a1_4) else (Qah.j0 k (l1_0.length : Int) true l0_0 l1_0 a1_1 a1_2 l1_3 a1_4))) else (Qah.j0 k (l1_0.length : Int) true l0_0 l1_0 a1_1 a1_2 l1_3 a1_4)))) else (Qah.j0 k (l1_0.length : Int) true l0_0 l1_0 a1_1 a1_2 l1_3 a1_4))) else (Qah.j0 k (l1_0.length : Int) true l0_0 l1_0 a1_1 a1_2 l1_3 a1_4))) else (Qah.j0 k (l1_0.length : Int) true l0_0 l1_0 a1_1 a1_2 l1_3 a1_4))
theorem Qah.mono_l : ∀ k, (∀ y0 y1 y2 y3 y4 y5 y6 y7, LeO (Qah.j0 k y0 y1 y2 y3 y4 y5 y6 y7) (Qah.j0 (k + 1) y0 y1 y2 y3 y4 y5 y6 y7)) ∧ (∀ y0 y1 y2 y3 y4 y5 y6 y7 y8, LeO (Qah.l0 k y0 y1 y2 y3 y4 y5 y6 y7 y8) (Qah.l0 (k + 1) y0 y1 y2 y3 y4 y5 y6 y7 y8))
 | 0 => ⟨fun _ _ _ _ _ _ _ _ r h => by simp [Qah.j0] at h, fun _ _ _ _ _ _ _ _ _ r h => by simp [Qah.l0] at h⟩
 | k + 1 => by
   obtain ⟨ih0, ih1⟩ := Qah.mono_l k
   refine ⟨?_, ?_⟩
   · intro y0 y1 y2 y3 y4 y5 y6 y7
     unfold Qah.j0
     repeat' first
     | (with_reducible exact ih0 _ _ _ _ _ _ _ _)
     | (with_reducible exact ih1 _ _ _ _ _ _ _ _ _)
     | (with_reducible exact Qax.mono _ _)
     | (with_reducible exact Qau.mono _ _ _ _ _ _)
     | (with_reducible exact Qat.mono _ _ _ _ _ _ _ _ _)
     | (with_reducible exact QaC.mono _ _ _)
     | (with_reducible exact QaF.mono _ _ _ _ _ _)
     | (with_reducible exact LeO.refl _)
     | (with_reducible exact LeO.none _)
     | (with_reducible refine LeO.ite ?_ ?_)
     | (with_reducible refine LeO.bind ?_ (fun _ => ?_))
     | exact ih0 _ _ _ _ _ _ _ _
     | exact ih1 _ _ _ _ _ _ _ _ _
     | exact Qax.mono _ _
     | exact Qau.mono _ _ _ _ _ _
     | exact Qat.mono _ _ _ _ _ _ _ _ _
     | exact QaC.mono _ _ _
     | exact QaF.mono _ _ _ _ _ _
     | exact LeO.none _
     | refine LeO.ite ?_ ?_
     | refine LeO.bind ?_ (fun _ => ?_)
   · intro y0 y1 y2 y3 y4 y5 y6 y7 y8
     unfold Qah.l0
     repeat' first
     | (with_reducible exact ih0 _ _ _ _ _ _ _ _)
     | (with_reducible exact ih1 _ _ _ _ _ _ _ _ _)
     | (with_reducible exact Qax.mono _ _)
     | (with_reducible exact Qau.mono _ _ _ _ _ _)
     | (with_reducible exact Qat.mono _ _ _ _ _ _ _ _ _)
     | (with_reducible exact QaC.mono _ _ _)
     | (with_reducible exact QaF.mono _ _ _ _ _ _)
     | (with_reducible exact LeO.refl _)
     | (with_reducible exact LeO.none _)
     | (with_reducible refine LeO.ite ?_ ?_)
     | (with_reducible refine LeO.bind ?_ (fun _ => ?_))
     | exact ih0 _ _ _ _ _ _ _ _
     | exact ih1 _ _ _ _ _ _ _ _ _
     | exact Qax.mono _ _
     | exact Qau.mono _ _ _ _ _ _
     | exact Qat.mono _ _ _ _ _ _ _ _ _
     | exact QaC.mono _ _ _
     | exact QaF.mono _ _ _ _ _ _
     | exact LeO.none _
     | refine LeO.ite ?_ ?_
     | refine LeO.bind ?_ (fun _ => ?_)
theorem Qah.mono : ∀ a0 a1 a2 a3 a4 a5 k, LeO (Qah.f k a0 a1 a2 a3 a4 a5) (Qah.f (k + 1) a0 a1 a2 a3 a4 a5) := by
 intro a0 a1 a2 a3 a4 a5 k
 obtain ⟨ih0, ih1⟩ := Qah.mono_l k
 unfold Qah.f
 repeat' first
  | (with_reducible exact ih0 _ _ _ _ _ _ _ _)
  | (with_reducible exact ih1 _ _ _ _ _ _ _ _ _)
  | (with_reducible exact Qax.mono _ _)
  | (with_reducible exact Qau.mono _ _ _ _ _ _)
  | (with_reducible exact Qat.mono _ _ _ _ _ _ _ _ _)
  | (with_reducible exact QaC.mono _ _ _)
  | (with_reducible exact QaF.mono _ _ _ _ _ _)
  | (with_reducible exact LeO.refl _)
  | (with_reducible exact LeO.none _)
  | (with_reducible refine LeO.ite ?_ ?_)
  | (with_reducible refine LeO.bind ?_ (fun _ => ?_))
  | exact ih0 _ _ _ _ _ _ _ _
  | exact ih1 _ _ _ _ _ _ _ _ _
  | exact Qax.mono _ _
  | exact Qau.mono _ _ _ _ _ _
  | exact Qat.mono _ _ _ _ _ _ _ _ _
  | exact QaC.mono _ _ _
  | exact QaF.mono _ _ _ _ _ _
  | exact LeO.none _
  | refine LeO.ite ?_ ?_
  | refine LeO.bind ?_ (fun _ => ?_)
def Qah.T8 : Bool × List (List Nat × List Nat) := (true, [([], []), ([], []), ([1], [1]), ([], []), ([2, 3], [2, 3]), ([4], [4]), ([], []), ([0, 5, 6], [0, 5, 6]), ([7], [7])])
def Qah.B8 : List Nat := [0, 0, 2, 0, 14, 30, 0, 127, 255]
theorem Qah.tab8 : rtab .any (opsOf Try.f42 8) = Qah.T8 := by kernel_rfl
theorem Qah.bits8 : Qcj Qah.T8.2 Qah.B8 = true := by kernel_rfl
set_option maxHeartbeats 8000000 in
set_option maxRecDepth 100000 in
theorem Qah.calls (k : Nat) (A0_0 : Option Addr) (c0_0 : Nat) (l0_0 : List (Qai)) (A1_0 : Option Addr) (c1_0 : Nat) (l1_0 : List (Qas)) (a1_1 : Int) (a1_2 : Int) (A1_3 : Option Addr) (c1_3 : Nat) (l1_3 : List (Qao)) (a1_4 : Int) (r : Bool) (w : World) (hr0_0 : Kd.C QaI w A0_0 l0_0.length l0_0) (hc0_0 : l0_0.length ≤ c0_0) (hr1_0 : Kd.C Qa_ w A1_0 l1_0.length l1_0) (hc1_0 : l1_0.length ≤ c1_0) (hr1_3 : Kd.C QaN w A1_3 l1_3.length l1_3) (hc1_3 : l1_3.length ≤ c1_3) (h : Qah.f k l0_0 l1_0 a1_1 a1_2 l1_3 a1_4 = some r) :
 Calls Try.prog 42 #[.agg #[.slice A0_0 l0_0.length c0_0], .agg #[.slice A1_0 l1_0.length c1_0, .int .i64 a1_1, .int .i64 a1_2, .slice A1_3 l1_3.length c1_3, .int .i64 a1_4]] w fun e w' => e = .returned (.bool r) ∧ Below w.heap.size w w' := by
 have hu25 := Try.underlying25
 have hu46 := Try.underlying46
 have hu67 := Try.underlying67
 have HR0_0 := Aside0.mk hr0_0
 have HC0_0 := Aside0.mk hc0_0
 clear hr0_0 hc0_0
 have HR1_0 := Aside0.mk hr1_0
 have HC1_0 := Aside0.mk hc1_0
 clear hr1_0 hc1_0
 have HR1_3 := Aside0.mk hr1_3
 have HC1_3 := Aside0.mk hc1_3
 clear hr1_3 hc1_3
 have HB := Aside0.mk (Below.refl w.heap.size w)
 have H : ((Qax.f k l0_0).bind fun t103 => (if t103 = true then ((Qav.f a1_1 (-1) (wrap64 ((l1_0.length : Int) - 1))).bind fun t104 => (if t104 = true then ((Qav.f a1_2 1 30).bind fun t105 => (if t105 = true then (if (l1_0.length : Int) > a1_2 then (Qah.j0 k (l1_0.length : Int) true l0_0 l1_0 a1_1 a1_2 l1_3 a1_4) else ((Qav.f a1_4 0 3).bind fun t106 => (if t106 = true then ((QaC.f k l0_0 l1_3).bind fun t107 => (if t107 = true then (Qah.j0 k (l1_0.length : Int) ((a1_4 == 1) != (decide (a1_1 < 0))) l0_0 l1_0 a1_1 a1_2 l1_3 a1_4) else (Qah.j0 k (l1_0.length : Int) true l0_0 l1_0 a1_1 a1_2 l1_3 a1_4))) else (Qah.j0 k (l1_0.length : Int) true l0_0 l1_0 a1_1 a1_2 l1_3 a1_4)))) else (Qah.j0 k (l1_0.length : Int) true l0_0 l1_0 a1_1 a1_2 l1_3 a1_4))) else (Qah.j0 k (l1_0.length : Int) true l0_0 l1_0 a1_1 a1_2 l1_3 a1_4))) else (Qah.j0 k (l1_0.length : Int) true l0_0 l1_0 a1_1 a1_2 l1_3 a1_4))) = some r := h
 clear h
 have HC3 := Aside0.mk H
 clear H
 go_enter Try.func42, Try.ntmps42
 go_upto_region 2 with (first | ((with_reducible refine Qaq (N := 2) rfl ?_); (try (refine Qbg (by rfl) ?_; dsimp only)); refine Qam ?hg (N := 2) ?hd (cs := #[.slice A0_0 l0_0.length c0_0]) (t := 25) ?hr ?_; (case hd => rfl); (case hg => rfl); (case hr => first | (go_simp; done) | (go_simp; rfl)); intro gb101 hg w4 hbox hb; have n0_ := Aside0.mk (Qac (bw_) hb); have n1_ := Aside0.mk (hbox); have n2_ := Aside0.mk ((gs_ hg bw_ : w.heap.size ≤ gb101)); have n3_ := Aside0.mk ((gs_ hg bw_ : w.heap.size ≤ gb101)); clear HB; have HB := n0_; have BK101 := n1_; have GW101 := n2_; have GE101 := n3_; clear n0_ n1_ n2_ n3_; clear hb hbox hg) | ((with_reducible refine Qaq (N := 3) rfl ?_); (try (refine Qbg (by rfl) ?_; dsimp only)); refine Qam ?hg (N := 3) ?hd (cs := #[.slice A1_0 l1_0.length c1_0, .int .i64 a1_1, .int .i64 a1_2, .slice A1_3 l1_3.length c1_3, .int .i64 a1_4]) (t := 46) ?hr ?_; (case hd => rfl); (case hg => rfl); (case hr => first | (go_simp; done) | (go_simp; rfl)); intro gb102 hg w5 hbox hb; have n0_ := Aside0.mk (bb_ BK101 hb); have n1_ := Aside0.mk (Qac (bw_) hb); have n2_ := Aside0.mk (hbox); have n3_ := Aside0.mk ((gs_ hg bw_ : w.heap.size ≤ gb102)); have n4_ := Aside0.mk ((gs_ hg bw_ : w.heap.size ≤ gb102)); have n5_ := Aside0.mk ((nl_ hg BK101 : gb101 ≠ gb102)); have n6_ := Aside0.mk ((ng_ hg BK101 : gb102 ≠ gb101)); clear BK101; clear HB; have BK101 := n0_; have HB := n1_; have BK102 := n2_; have GW102 := n3_; have GE102 := n4_; have NB101_102 := n5_; have NB102_101 := n6_; clear n0_ n1_ n2_ n3_ n4_ n5_ n6_; clear hb hbox hg; have hnb6 := NB102_101.out; have hnc6 := NB101_102.out; obtain ⟨hcz7_0, hcz7_1, hcz7_2, hcz7_3, hcz7_4, hfz7_0, hfz7_1, hfz7_2, hfz7_3, hfz7_4⟩ := Qbe BK102.out))
 (try simp only [Act.put, List.setIfInBounds_toArray, List.set_cons_zero, List.set_cons_succ])
 go_cut [55] (fun v55 wc => ∃ (kq : Nat) (x55_2 : Bool), v55 = .bool x55_2 ∧ Aside0 (Qah.j0 kq (l1_0.length : Int) x55_2 l0_0 l1_0 a1_1 a1_2 l1_3 a1_4 = some r) ∧ Aside0 (kq ≤ k) ∧ Aside0 (wc.heap[gb101]? = some (.cells #[(.slice A0_0 l0_0.length c0_0)] 25 (0, 0))) ∧ Aside0 (wc.heap[gb102]? = some (.cells #[(.slice A1_0 l1_0.length c1_0), .int .i64 a1_1, .int .i64 a1_2, (.slice A1_3 l1_3.length c1_3), .int .i64 a1_4] 46 (0, 0))) ∧ Aside0 (Below w.heap.size w wc))
 case first =>
  have H := HC3.out
  clear HC3
  replace H := Option.bind_eq_some_iff.mp H
  obtain ⟨t103, A80, H⟩ := H
  replace H : (if t103 = true then ((Qav.f a1_1 (-1) (wrap64 ((l1_0.length : Int) - 1))).bind fun t104 => (if t104 = true then ((Qav.f a1_2 1 30).bind fun t105 => (if t105 = true then (if (l1_0.length : Int) > a1_2 then (Qah.j0 k (l1_0.length : Int) true l0_0 l1_0 a1_1 a1_2 l1_3 a1_4) else ((Qav.f a1_4 0 3).bind fun t106 => (if t106 = true then ((QaC.f k l0_0 l1_3).bind fun t107 => (if t107 = true then (Qah.j0 k (l1_0.length : Int) ((a1_4 == 1) != (decide (a1_1 < 0))) l0_0 l1_0 a1_1 a1_2 l1_3 a1_4) else (Qah.j0 k (l1_0.length : Int) true l0_0 l1_0 a1_1 a1_2 l1_3 a1_4))) else (Qah.j0 k (l1_0.length : Int) true l0_0 l1_0 a1_1 a1_2 l1_3 a1_4)))) else (Qah.j0 k (l1_0.length : Int) true l0_0 l1_0 a1_1 a1_2 l1_3 a1_4))) else (Qah.j0 k (l1_0.length : Int) true l0_0 l1_0 a1_1 a1_2 l1_3 a1_4))) else (Qah.j0 k (l1_0.length : Int) true l0_0 l1_0 a1_1 a1_2 l1_3 a1_4)) = some r := H
  have A8 := Aside0.mk A80
  clear A80
  by_cases c9 : t103 = true
  · subst c9
    have H1 : ((Qav.f a1_1 (-1) (wrap64 ((l1_0.length : Int) - 1))).bind fun t104 => (if t104 = true then ((Qav.f a1_2 1 30).bind fun t105 => (if t105 = true then (if (l1_0.length : Int) > a1_2 then (Qah.j0 k (l1_0.length : Int) true l0_0 l1_0 a1_1 a1_2 l1_3 a1_4) else ((Qav.f a1_4 0 3).bind fun t106 => (if t106 = true then ((QaC.f k l0_0 l1_3).bind fun t107 => (if t107 = true then (Qah.j0 k (l1_0.length : Int) ((a1_4 == 1) != (decide (a1_1 < 0))) l0_0 l1_0 a1_1 a1_2 l1_3 a1_4) else (Qah.j0 k (l1_0.length : Int) true l0_0 l1_0 a1_1 a1_2 l1_3 a1_4))) else (Qah.j0 k (l1_0.length : Int) true l0_0 l1_0 a1_1 a1_2 l1_3 a1_4)))) else (Qah.j0 k (l1_0.length : Int) true l0_0 l1_0 a1_1 a1_2 l1_3 a1_4))) else (Qah.j0 k (l1_0.length : Int) true l0_0 l1_0 a1_1 a1_2 l1_3 a1_4))) = some r := by rw [if_pos rfl] at H; exact H
    clear H
    have H := H1
    clear H1
    replace H := Option.bind_eq_some_iff.mp H
    obtain ⟨t104, A100, H⟩ := H
    replace H : (if t104 = true then ((Qav.f a1_2 1 30).bind fun t105 => (if t105 = true then (if (l1_0.length : Int) > a1_2 then (Qah.j0 k (l1_0.length : Int) true l0_0 l1_0 a1_1 a1_2 l1_3 a1_4) else ((Qav.f a1_4 0 3).bind fun t106 => (if t106 = true then ((QaC.f k l0_0 l1_3).bind fun t107 => (if t107 = true then (Qah.j0 k (l1_0.length : Int) ((a1_4 == 1) != (decide (a1_1 < 0))) l0_0 l1_0 a1_1 a1_2 l1_3 a1_4) else (Qah.j0 k (l1_0.length : Int) true l0_0 l1_0 a1_1 a1_2 l1_3 a1_4))) else (Qah.j0 k (l1_0.length : Int) true l0_0 l1_0 a1_1 a1_2 l1_3 a1_4)))) else (Qah.j0 k (l1_0.length : Int) true l0_0 l1_0 a1_1 a1_2 l1_3 a1_4))) else (Qah.j0 k (l1_0.length : Int) true l0_0 l1_0 a1_1 a1_2 l1_3 a1_4)) = some r := H
    have A10 := Aside0.mk A100
    clear A100
    by_cases c11 : t104 = true
    · subst c11
      have H1 : ((Qav.f a1_2 1 30).bind fun t105 => (if t105 = true then (if (l1_0.length : Int) > a1_2 then (Qah.j0 k (l1_0.length : Int) true l0_0 l1_0 a1_1 a1_2 l1_3 a1_4) else ((Qav.f a1_4 0 3).bind fun t106 => (if t106 = true then ((QaC.f k l0_0 l1_3).bind fun t107 => (if t107 = true then (Qah.j0 k (l1_0.length : Int) ((a1_4 == 1) != (decide (a1_1 < 0))) l0_0 l1_0 a1_1 a1_2 l1_3 a1_4) else (Qah.j0 k (l1_0.length : Int) true l0_0 l1_0 a1_1 a1_2 l1_3 a1_4))) else (Qah.j0 k (l1_0.length : Int) true l0_0 l1_0 a1_1 a1_2 l1_3 a1_4)))) else (Qah.j0 k (l1_0.length : Int) true l0_0 l1_0 a1_1 a1_2 l1_3 a1_4))) = some r := by rw [if_pos rfl] at H; exact H
      clear H
      have H := H1
      clear H1
      replace H := Option.bind_eq_some_iff.mp H
      obtain ⟨t105, A120, H⟩ := H
      replace H : (if t105 = true then (if (l1_0.length : Int) > a1_2 then (Qah.j0 k (l1_0.length : Int) true l0_0 l1_0 a1_1 a1_2 l1_3 a1_4) else ((Qav.f a1_4 0 3).bind fun t106 => (if t106 = true then ((QaC.f k l0_0 l1_3).bind fun t107 => (if t107 = true then (Qah.j0 k (l1_0.length : Int) ((a1_4 == 1) != (decide (a1_1 < 0))) l0_0 l1_0 a1_1 a1_2 l1_3 a1_4) else (Qah.j0 k (l1_0.length : Int) true l0_0 l1_0 a1_1 a1_2 l1_3 a1_4))) else (Qah.j0 k (l1_0.length : Int) true l0_0 l1_0 a1_1 a1_2 l1_3 a1_4)))) else (Qah.j0 k (l1_0.length : Int) true l0_0 l1_0 a1_1 a1_2 l1_3 a1_4)) = some r := H
      have A12 := Aside0.mk A120
      clear A120
      by_cases c13 : t105 = true
      · subst c13
        have H1 : (if (l1_0.length : Int) > a1_2 then (Qah.j0 k (l1_0.length : Int) true l0_0 l1_0 a1_1 a1_2 l1_3 a1_4) else ((Qav.f a1_4 0 3).bind fun t106 => (if t106 = true then ((QaC.f k l0_0 l1_3).bind fun t107 => (if t107 = true then (Qah.j0 k (l1_0.length : Int) ((a1_4 == 1) != (decide (a1_1 < 0))) l0_0 l1_0 a1_1 a1_2 l1_3 a1_4) else (Qah.j0 k (l1_0.length : Int) true l0_0 l1_0 a1_1 a1_2 l1_3 a1_4))) else (Qah.j0 k (l1_0.length : Int) true l0_0 l1_0 a1_1 a1_2 l1_3 a1_4)))) = some r := by rw [if_pos rfl] at H; exact H
        clear H
        have H := H1
        clear H1
        by_cases c14 : (l1_0.length : Int) > a1_2
        · rw [if_pos c14] at H
          have c14b0 : decide (a1_2 < (l1_0.length : Int)) = true := decide_eq_true c14
          clear c14
          (first | rw [c14b0] | (simp only [QbA, QbB]; rw [c14b0]) | skip)
          have H' := Aside0.mk H
          clear H
          have hnb15 := NB101_102.out
          have hnc15 := NB102_101.out
          have hcz16_0 : w5.cell? ⟨gb101, 0, none⟩ = some (.slice A0_0 l0_0.length c0_0) := (Qab BK101.out 0).trans rfl
          have hfz16_0 := Qad BK101.out 0
          go_wp2_with (first | ((with_reducible refine Qal (f := 57) rfl ?_); refine QaU (some 12) rfl rfl Try.func57 (by kernel_rfl) rfl #[.agg #[.slice A0_0 l0_0.length c0_0]] rfl (by (try simp only [List.map_toArray, List.map_cons, List.map_nil]); first | done | rfl | (simp only [List.length_drop, List.length_take]; rfl)) ?_; (with_reducible refine (Qax.calls k _ _ l0_0 true _ ?side1 ?side2 A8.out).mono ?_); (case side1 => exact cb_); (case side2 => exact HC0_0.out); rintro e w17 ⟨rfl, hb⟩; refine ⟨_, rfl, ?_⟩; have n0_ := Aside0.mk (bb_ BK101 hb); have n1_ := Aside0.mk (bb_ BK102 hb); have n2_ := Aside0.mk (Qac (bw_) hb); clear BK101; clear BK102; clear HB; have BK101 := n0_; have BK102 := n1_; have HB := n2_; clear n0_ n1_ n2_; (try clear hb); (try clear hb2); (try clear hk); (try clear hi); obtain ⟨hcz18_0, hcz18_1, hcz18_2, hcz18_3, hcz18_4, hfz18_0, hfz18_1, hfz18_2, hfz18_3, hfz18_4⟩ := Qbe BK102.out) | (go_at_call 58; (with_reducible refine (Qav.calls a1_1 (-1) (wrap64 ((l1_0.length : Int) - 1)) true _ A10.out).mono ?_); rintro e w' ⟨rfl, ⟨nd, rfl⟩⟩) | (go_at_call 58; (with_reducible refine (Qav.calls a1_2 1 30 true _ A12.out).mono ?_); rintro e w' ⟨rfl, ⟨nd, rfl⟩⟩))
          go_meet
          case rel => exact ⟨_, (true), (by first | rfl | (simp; done) | (simp [*]; done)), H', ⟨by first | omega | exact Nat.le_refl _⟩, ⟨by (refine kb_ ?_); exact BK101.out⟩, ⟨by (refine kb_ ?_); exact BK102.out⟩, ⟨bw_⟩⟩
        · rw [if_neg c14] at H
          have c14b0 : decide (a1_2 < (l1_0.length : Int)) = false := decide_eq_false c14
          clear c14
          (first | rw [c14b0] | (simp only [QbA, QbB]; rw [c14b0]) | skip)
          replace H := Option.bind_eq_some_iff.mp H
          obtain ⟨t106, A190, H⟩ := H
          replace H : (if t106 = true then ((QaC.f k l0_0 l1_3).bind fun t107 => (if t107 = true then (Qah.j0 k (l1_0.length : Int) ((a1_4 == 1) != (decide (a1_1 < 0))) l0_0 l1_0 a1_1 a1_2 l1_3 a1_4) else (Qah.j0 k (l1_0.length : Int) true l0_0 l1_0 a1_1 a1_2 l1_3 a1_4))) else (Qah.j0 k (l1_0.length : Int) true l0_0 l1_0 a1_1 a1_2 l1_3 a1_4)) = some r := H
          have A19 := Aside0.mk A190
          clear A190
          by_cases c20 : t106 = true
          · subst c20
            have H1 : ((QaC.f k l0_0 l1_3).bind fun t107 => (if t107 = true then (Qah.j0 k (l1_0.length : Int) ((a1_4 == 1) != (decide (a1_1 < 0))) l0_0 l1_0 a1_1 a1_2 l1_3 a1_4) else (Qah.j0 k (l1_0.length : Int) true l0_0 l1_0 a1_1 a1_2 l1_3 a1_4))) = some r := by rw [if_pos rfl] at H; exact H
            clear H
            have H := H1
            clear H1
            replace H := Option.bind_eq_some_iff.mp H
            obtain ⟨t107, A210, H⟩ := H
            replace H : (if t107 = true then (Qah.j0 k (l1_0.length : Int) ((a1_4 == 1) != (decide (a1_1 < 0))) l0_0 l1_0 a1_1 a1_2 l1_3 a1_4) else (Qah.j0 k (l1_0.length : Int) true l0_0 l1_0 a1_1 a1_2 l1_3 a1_4)) = some r := H
            have A21 := Aside0.mk A210
            clear A210
            by_cases c22 : t107 = true
            · subst c22
              have H1 : (Qah.j0 k (l1_0.length : Int) ((a1_4 == 1) != (decide (a1_1 < 0))) l0_0 l1_0 a1_1 a1_2 l1_3 a1_4) = some r := by rw [if_pos rfl] at H; exact H
              clear H
              have H := H1
              clear H1
              have H' := Aside0.mk H
              clear H
              have hnb23 := NB101_102.out
              have hnc23 := NB102_101.out
              have hcz24_0 : w5.cell? ⟨gb101, 0, none⟩ = some (.slice A0_0 l0_0.length c0_0) := (Qab BK101.out 0).trans rfl
              have hfz24_0 := Qad BK101.out 0
              go_wp2_with (first | ((with_reducible refine Qal (f := 57) rfl ?_); refine QaU (some 12) rfl rfl Try.func57 (by kernel_rfl) rfl #[.agg #[.slice A0_0 l0_0.length c0_0]] rfl (by (try simp only [List.map_toArray, List.map_cons, List.map_nil]); first | done | rfl | (simp only [List.length_drop, List.length_take]; rfl)) ?_; (with_reducible refine (Qax.calls k _ _ l0_0 true _ ?side1 ?side2 A8.out).mono ?_); (case side1 => exact cb_); (case side2 => exact HC0_0.out); rintro e w25 ⟨rfl, hb⟩; refine ⟨_, rfl, ?_⟩; have n0_ := Aside0.mk (bb_ BK101 hb); have n1_ := Aside0.mk (bb_ BK102 hb); have n2_ := Aside0.mk (Qac (bw_) hb); clear BK101; clear BK102; clear HB; have BK101 := n0_; have BK102 := n1_; have HB := n2_; clear n0_ n1_ n2_; (try clear hb); (try clear hb2); (try clear hk); (try clear hi); obtain ⟨hcz26_0, hcz26_1, hcz26_2, hcz26_3, hcz26_4, hfz26_0, hfz26_1, hfz26_2, hfz26_3, hfz26_4⟩ := Qbe BK102.out) | (go_at_call 58; (with_reducible refine (Qav.calls a1_1 (-1) (wrap64 ((l1_0.length : Int) - 1)) true _ A10.out).mono ?_); rintro e w' ⟨rfl, ⟨nd, rfl⟩⟩) | (go_at_call 58; (with_reducible refine (Qav.calls a1_2 1 30 true _ A12.out).mono ?_); rintro e w' ⟨rfl, ⟨nd, rfl⟩⟩) | (go_at_call 58; (with_reducible refine (Qav.calls a1_4 0 3 true _ A19.out).mono ?_); rintro e w' ⟨rfl, ⟨nd, rfl⟩⟩; obtain ⟨hcz27_0, hfz27_0⟩ := QbM BK101.out) | (go_at_call 88; (with_reducible refine (QaC.calls k _ _ l0_0 _ _ l1_3 true _ ?side1 ?side2 ?side3 ?side4 A21.out).mono ?_); (case side1 => exact cb_); (case side2 => exact HC0_0.out); (case side3 => exact cb_); (case side4 => exact HC1_3.out); rintro e w28 ⟨rfl, hb⟩; have n0_ := Aside0.mk (bb_ BK101 hb); have n1_ := Aside0.mk (bb_ BK102 hb); have n2_ := Aside0.mk (Qac (bw_) hb); clear BK101; clear BK102; clear HB; have BK101 := n0_; have BK102 := n1_; have HB := n2_; clear n0_ n1_ n2_; (try clear hb); (try clear hb2); (try clear hk); (try clear hi); obtain ⟨hcz29_0, hcz29_1, hcz29_2, hcz29_3, hcz29_4, hfz29_0, hfz29_1, hfz29_2, hfz29_3, hfz29_4⟩ := Qbe BK102.out))
              go_meet
              case rel => exact ⟨_, (((a1_4 == 1) != (decide (a1_1 < 0)))), (by first | rfl | (simp; done) | (simp [*]; done)), H', ⟨by first | omega | exact Nat.le_refl _⟩, ⟨by (refine kb_ ?_); exact BK101.out⟩, ⟨by (refine kb_ ?_); exact BK102.out⟩, ⟨bw_⟩⟩
            · replace c22 := Bool.eq_false_iff.mpr c22
              subst c22
              have H1 : (Qah.j0 k (l1_0.length : Int) true l0_0 l1_0 a1_1 a1_2 l1_3 a1_4) = some r := by rw [if_neg (show ¬ (false = true) by decide)] at H; exact H
              clear H
              have H := H1
              clear H1
              have H' := Aside0.mk H
              clear H
              have hnb30 := NB101_102.out
              have hnc30 := NB102_101.out
              have hcz31_0 : w5.cell? ⟨gb101, 0, none⟩ = some (.slice A0_0 l0_0.length c0_0) := (Qab BK101.out 0).trans rfl
              have hfz31_0 := Qad BK101.out 0
              go_wp2_with (first | ((with_reducible refine Qal (f := 57) rfl ?_); refine QaU (some 12) rfl rfl Try.func57 (by kernel_rfl) rfl #[.agg #[.slice A0_0 l0_0.length c0_0]] rfl (by (try simp only [List.map_toArray, List.map_cons, List.map_nil]); first | done | rfl | (simp only [List.length_drop, List.length_take]; rfl)) ?_; (with_reducible refine (Qax.calls k _ _ l0_0 true _ ?side1 ?side2 A8.out).mono ?_); (case side1 => exact cb_); (case side2 => exact HC0_0.out); rintro e w32 ⟨rfl, hb⟩; refine ⟨_, rfl, ?_⟩; have n0_ := Aside0.mk (bb_ BK101 hb); have n1_ := Aside0.mk (bb_ BK102 hb); have n2_ := Aside0.mk (Qac (bw_) hb); clear BK101; clear BK102; clear HB; have BK101 := n0_; have BK102 := n1_; have HB := n2_; clear n0_ n1_ n2_; (try clear hb); (try clear hb2); (try clear hk); (try clear hi); obtain ⟨hcz33_0, hcz33_1, hcz33_2, hcz33_3, hcz33_4, hfz33_0, hfz33_1, hfz33_2, hfz33_3, hfz33_4⟩ := Qbe BK102.out) | (go_at_call 58; (with_reducible refine (Qav.calls a1_1 (-1) (wrap64 ((l1_0.length : Int) - 1)) true _ A10.out).mono ?_); rintro e w' ⟨rfl, ⟨nd, rfl⟩⟩) | (go_at_call 58; (with_reducible refine (Qav.calls a1_2 1 30 true _ A12.out).mono ?_); rintro e w' ⟨rfl, ⟨nd, rfl⟩⟩) | (go_at_call 58; (with_reducible refine (Qav.calls a1_4 0 3 true _ A19.out).mono ?_); rintro e w' ⟨rfl, ⟨nd, rfl⟩⟩; obtain ⟨hcz34_0, hfz34_0⟩ := QbM BK101.out) | (go_at_call 88; (with_reducible refine (QaC.calls k _ _ l0_0 _ _ l1_3 false _ ?side1 ?side2 ?side3 ?side4 A21.out).mono ?_); (case side1 => exact cb_); (case side2 => exact HC0_0.out); (case side3 => exact cb_); (case side4 => exact HC1_3.out); rintro e w35 ⟨rfl, hb⟩; have n0_ := Aside0.mk (bb_ BK101 hb); have n1_ := Aside0.mk (bb_ BK102 hb); have n2_ := Aside0.mk (Qac (bw_) hb); clear BK101; clear BK102; clear HB; have BK101 := n0_; have BK102 := n1_; have HB := n2_; clear n0_ n1_ n2_; (try clear hb); (try clear hb2); (try clear hk); (try clear hi)))
              go_meet
              case rel => exact ⟨_, (true), (by first | rfl | (simp; done) | (simp [*]; done)), H', ⟨by first | omega | exact Nat.le_refl _⟩, ⟨by (refine kb_ ?_); exact BK101.out⟩, ⟨by (refine kb_ ?_); exact BK102.out⟩, ⟨bw_⟩⟩
          · replace c20 := Bool.eq_false_iff.mpr c20
            subst c20
            have H1 : (Qah.j0 k (l1_0.length : Int) true l0_0 l1_0 a1_1 a1_2 l1_3 a1_4) = some r := by rw [if_neg (show ¬ (false = true) by decide)] at H; exact H
            clear H
            have H := H1
            clear H1
            have H' := Aside0.mk H
            clear H
            have hnb36 := NB101_102.out
            have hnc36 := NB102_101.out
            have hcz37_0 : w5.cell? ⟨gb101, 0, none⟩ = some (.slice A0_0 l0_0.length c0_0) := (Qab BK101.out 0).trans rfl
            have hfz37_0 := Qad BK101.out 0
            go_wp2_with (first | ((with_reducible refine Qal (f := 57) rfl ?_); refine QaU (some 12) rfl rfl Try.func57 (by kernel_rfl) rfl #[.agg #[.slice A0_0 l0_0.length c0_0]] rfl (by (try simp only [List.map_toArray, List.map_cons, List.map_nil]); first | done | rfl | (simp only [List.length_drop, List.length_take]; rfl)) ?_; (with_reducible refine (Qax.calls k _ _ l0_0 true _ ?side1 ?side2 A8.out).mono ?_); (case side1 => exact cb_); (case side2 => exact HC0_0.out); rintro e w38 ⟨rfl, hb⟩; refine ⟨_, rfl, ?_⟩; have n0_ := Aside0.mk (bb_ BK101 hb); have n1_ := Aside0.mk (bb_ BK102 hb); have n2_ := Aside0.mk (Qac (bw_) hb); clear BK101; clear BK102; clear HB; have BK101 := n0_; have BK102 := n1_; have HB := n2_; clear n0_ n1_ n2_; (try clear hb); (try clear hb2); (try clear hk); (try clear hi); obtain ⟨hcz39_0, hcz39_1, hcz39_2, hcz39_3, hcz39_4, hfz39_0, hfz39_1, hfz39_2, hfz39_3, hfz39_4⟩ := Qbe BK102.out) | (go_at_call 58; (with_reducible refine (Qav.calls a1_1 (-1) (wrap64 ((l1_0.length : Int) - 1)) true _ A10.out).mono ?_); rintro e w' ⟨rfl, ⟨nd, rfl⟩⟩) | (go_at_call 58; (with_reducible refine (Qav.calls a1_2 1 30 true _ A12.out).mono ?_); rintro e w' ⟨rfl, ⟨nd, rfl⟩⟩) | (go_at_call 58; (with_reducible refine (Qav.calls a1_4 0 3 false _ A19.out).mono ?_); rintro e w' ⟨rfl, ⟨nd, rfl⟩⟩))
            go_meet
            case rel => exact ⟨_, (true), (by first | rfl | (simp; done) | (simp [*]; done)), H', ⟨by first | omega | exact Nat.le_refl _⟩, ⟨by (refine kb_ ?_); exact BK101.out⟩, ⟨by (refine kb_ ?_); exact BK102.out⟩, ⟨bw_⟩⟩
      · replace c13 := Bool.eq_false_iff.mpr c13
        subst c13
        have H1 : (Qah.j0 k (l1_0.length : Int) true l0_0 l1_0 a1_1 a1_2 l1_3 a1_4) = some r := by rw [if_neg (show ¬ (false = true) by decide)] at H; exact H
        clear H
        have H := H1
        clear H1
        have H' := Aside0.mk H
        clear H
        have hnb40 := NB101_102.out
        have hnc40 := NB102_101.out
        have hcz41_0 : w5.cell? ⟨gb101, 0, none⟩ = some (.slice A0_0 l0_0.length c0_0) := (Qab BK101.out 0).trans rfl
        have hfz41_0 := Qad BK101.out 0
        go_wp2_with (first | ((with_reducible refine Qal (f := 57) rfl ?_); refine QaU (some 12) rfl rfl Try.func57 (by kernel_rfl) rfl #[.agg #[.slice A0_0 l0_0.length c0_0]] rfl (by (try simp only [List.map_toArray, List.map_cons, List.map_nil]); first | done | rfl | (simp only [List.length_drop, List.length_take]; rfl)) ?_; (with_reducible refine (Qax.calls k _ _ l0_0 true _ ?side1 ?side2 A8.out).mono ?_); (case side1 => exact cb_); (case side2 => exact HC0_0.out); rintro e w42 ⟨rfl, hb⟩; refine ⟨_, rfl, ?_⟩; have n0_ := Aside0.mk (bb_ BK101 hb); have n1_ := Aside0.mk (bb_ BK102 hb); have n2_ := Aside0.mk (Qac (bw_) hb); clear BK101; clear BK102; clear HB; have BK101 := n0_; have BK102 := n1_; have HB := n2_; clear n0_ n1_ n2_; (try clear hb); (try clear hb2); (try clear hk); (try clear hi); obtain ⟨hcz43_0, hcz43_1, hcz43_2, hcz43_3, hcz43_4, hfz43_0, hfz43_1, hfz43_2, hfz43_3, hfz43_4⟩ := Qbe BK102.out) | (go_at_call 58; (with_reducible refine (Qav.calls a1_1 (-1) (wrap64 ((l1_0.length : Int) - 1)) true _ A10.out).mono ?_); rintro e w' ⟨rfl, ⟨nd, rfl⟩⟩) | (go_at_call 58; (with_reducible refine (Qav.calls a1_2 1 30 false _ A12.out).mono ?_); rintro e w' ⟨rfl, ⟨nd, rfl⟩⟩))
        go_meet
        case rel => exact ⟨_, (true), (by first | rfl | (simp; done) | (simp [*]; done)), H', ⟨by first | omega | exact Nat.le_refl _⟩, ⟨by (refine kb_ ?_); exact BK101.out⟩, ⟨by (refine kb_ ?_); exact BK102.out⟩, ⟨bw_⟩⟩
    · replace c11 := Bool.eq_false_iff.mpr c11
      subst c11
      have H1 : (Qah.j0 k (l1_0.length : Int) true l0_0 l1_0 a1_1 a1_2 l1_3 a1_4) = some r := by rw [if_neg (show ¬ (false = true) by decide)] at H; exact H
      clear H
      have H := H1
      clear H1
      have H' := Aside0.mk H
      clear H
      have hnb44 := NB101_102.out
      have hnc44 := NB102_101.out
      have hcz45_0 : w5.cell? ⟨gb101, 0, none⟩ = some (.slice A0_0 l0_0.length c0_0) := (Qab BK101.out 0).trans rfl
      have hfz45_0 := Qad BK101.out 0
      go_wp2_with (first | ((with_reducible refine Qal (f := 57) rfl ?_); refine QaU (some 12) rfl rfl Try.func57 (by kernel_rfl) rfl #[.agg #[.slice A0_0 l0_0.length c0_0]] rfl (by (try simp only [List.map_toArray, List.map_cons, List.map_nil]); first | done | rfl | (simp only [List.length_drop, List.length_take]; rfl)) ?_; (with_reducible refine (Qax.calls k _ _ l0_0 true _ ?side1 ?side2 A8.out).mono ?_); (case side1 => exact cb_); (case side2 => exact HC0_0.out); rintro e w46 ⟨rfl, hb⟩; refine ⟨_, rfl, ?_⟩; have n0_ := Aside0.mk (bb_ BK101 hb); have n1_ := Aside0.mk (bb_ BK102 hb); have n2_ := Aside0.mk (Qac (bw_) hb); clear BK101; clear BK102; clear HB; have BK101 := n0_; have BK102 := n1_; have HB := n2_; clear n0_ n1_ n2_; (try clear hb); (try clear hb2); (try clear hk); (try clear hi); obtain ⟨hcz47_0, hcz47_1, hcz47_2, hcz47_3, hcz47_4, hfz47_0, hfz47_1, hfz47_2, hfz47_3, hfz47_4⟩ := Qbe BK102.out) | (go_at_call 58; (with_reducible refine (Qav.calls a1_1 (-1) (wrap64 ((l1_0.length : Int) - 1)) false _ A10.out).mono ?_); rintro e w' ⟨rfl, ⟨nd, rfl⟩⟩))
      go_meet
      case rel => exact ⟨_, (true), (by first | rfl | (simp; done) | (simp [*]; done)), H', ⟨by first | omega | exact Nat.le_refl _⟩, ⟨by (refine kb_ ?_); exact BK101.out⟩, ⟨by (refine kb_ ?_); exact BK102.out⟩, ⟨bw_⟩⟩
  · replace c9 := Bool.eq_false_iff.mpr c9
    subst c9
    have H1 : (Qah.j0 k (l1_0.length : Int) true l0_0 l1_0 a1_1 a1_2 l1_3 a1_4) = some r := by rw [if_neg (show ¬ (false = true) by decide)] at H; exact H
    clear H
    have H := H1
    clear H1
    have H' := Aside0.mk H
    clear H
    have hnb48 := NB101_102.out
    have hnc48 := NB102_101.out
    have hcz49_0 : w5.cell? ⟨gb101, 0, none⟩ = some (.slice A0_0 l0_0.length c0_0) := (Qab BK101.out 0).trans rfl
    have hfz49_0 := Qad BK101.out 0
    go_wp2_with (first | ((with_reducible refine Qal (f := 57) rfl ?_); refine QaU (some 12) rfl rfl Try.func57 (by kernel_rfl) rfl #[.agg #[.slice A0_0 l0_0.length c0_0]] rfl (by (try simp only [List.map_toArray, List.map_cons, List.map_nil]); first | done | rfl | (simp only [List.length_drop, List.length_take]; rfl)) ?_; (with_reducible refine (Qax.calls k _ _ l0_0 false _ ?side1 ?side2 A8.out).mono ?_); (case side1 => exact cb_); (case side2 => exact HC0_0.out); rintro e w50 ⟨rfl, hb⟩; refine ⟨_, rfl, ?_⟩; have n0_ := Aside0.mk (bb_ BK101 hb); have n1_ := Aside0.mk (bb_ BK102 hb); have n2_ := Aside0.mk (Qac (bw_) hb); clear BK101; clear BK102; clear HB; have BK101 := n0_; have BK102 := n1_; have HB := n2_; clear n0_ n1_ n2_; (try clear hb); (try clear hb2); (try clear hk); (try clear hi)))
    go_meet
    case rel => exact ⟨_, (true), (by first | rfl | (simp; done) | (simp [*]; done)), H', ⟨by first | omega | exact Nat.le_refl _⟩, ⟨by (refine kb_ ?_); exact BK101.out⟩, ⟨by (refine kb_ ?_); exact BK102.out⟩, ⟨bw_⟩⟩
 case rest =>
  clear HC3
  try clear c1
  try clear c2
  try clear p2
  try clear c3
  try clear c4
  try clear c5
  try clear c6
  try clear p6
  try clear c9
  try clear c11
  try clear c13
  try clear c14
  try clear c14b0
  try clear c15
  try clear c20
  try clear c22
  try clear c23
  try clear c30
  try clear c36
  try clear c40
  try clear c42
  try clear c44
  try clear c48
  try clear hcz16_0
  try clear hcz18_0
  try clear hcz18_1
  try clear hcz18_2
  try clear hcz18_3
  try clear hcz18_4
  try clear hcz24_0
  try clear hcz26_0
  try clear hcz26_1
  try clear hcz26_2
  try clear hcz26_3
  try clear hcz26_4
  try clear hcz27_0
  try clear hcz29_0
  try clear hcz29_1
  try clear hcz29_2
  try clear hcz29_3
  try clear hcz29_4
  try clear hcz31_0
  try clear hcz33_0
  try clear hcz33_1
  try clear hcz33_2
  try clear hcz33_3
  try clear hcz33_4
  try clear hcz34_0
  try clear hcz37_0
  try clear hcz39_0
  try clear hcz39_1
  try clear hcz39_2
  try clear hcz39_3
  try clear hcz39_4
  try clear hcz41_0
  try clear hcz43_0
  try clear hcz43_1
  try clear hcz43_2
  try clear hcz43_3
  try clear hcz43_4
  try clear hcz45_0
  try clear hcz47_0
  try clear hcz47_1
  try clear hcz47_2
  try clear hcz47_3
  try clear hcz47_4
  try clear hcz49_0
  try clear hcz7_0
  try clear hcz7_1
  try clear hcz7_2
  try clear hcz7_3
  try clear hcz7_4
  try clear hfz16_0
  try clear hfz18_0
  try clear hfz18_1
  try clear hfz18_2
  try clear hfz18_3
  try clear hfz18_4
  try clear hfz24_0
  try clear hfz26_0
  try clear hfz26_1
  try clear hfz26_2
  try clear hfz26_3
  try clear hfz26_4
  try clear hfz27_0
  try clear hfz29_0
  try clear hfz29_1
  try clear hfz29_2
  try clear hfz29_3
  try clear hfz29_4
  try clear hfz31_0
  try clear hfz33_0
  try clear hfz33_1
  try clear hfz33_2
  try clear hfz33_3
  try clear hfz33_4
  try clear hfz34_0
  try clear hfz37_0
  try clear hfz39_0
  try clear hfz39_1
  try clear hfz39_2
  try clear hfz39_3
  try clear hfz39_4
  try clear hfz41_0
  try clear hfz43_0
  try clear hfz43_1
  try clear hfz43_2
  try clear hfz43_3
  try clear hfz43_4
  try clear hfz45_0
  try clear hfz47_0
  try clear hfz47_1
  try clear hfz47_2
  try clear hfz47_3
  try clear hfz47_4
  try clear hfz49_0
  try clear hfz7_0
  try clear hfz7_1
  try clear hfz7_2
  try clear hfz7_3
  try clear hfz7_4
  obtain ⟨kq, x55_2, rfl, HA, HJ2, BK101, BK102, HB⟩ := hcut
  cases kq with
  | zero => exact absurd HA.out (by simp [Qah.j0])
  | succ kj2 =>
    have H := HA.out
    clear HA
    simp only [Qah.j0] at H
    by_cases c51 : x55_2 = true
    · subst c51
      have H1 : (some false) = some r := by rw [if_pos rfl] at H; exact H
      clear H
      have H := H1
      clear H1
      obtain rfl := Option.some.inj H
      go_wp2
      go_ret
      exact ⟨by first | rfl | (simp [Qaf, Qag] <;> rfl) | (simp [*, Qaf, Qag] <;> rfl), bw_⟩
    · replace c51 := Bool.eq_false_iff.mpr c51
      subst c51
      have H1 : (Qah.l0 kj2 (l1_0.length : Int) 0 0 l0_0 l1_0 a1_1 a1_2 l1_3 a1_4) = some r := by rw [if_neg (show ¬ (false = true) by decide)] at H; exact H
      clear H
      have H := H1
      clear H1
      have H' := Aside0.mk H
      clear H
      go_wp2
      go_loopg [6, 7] kj2 (fun kq v6 v7 w' => ∃ (x6_2 : Int) (x7_2 : Int), v6 = .int .i64 x6_2 ∧ v7 = .int .i64 x7_2 ∧ Aside0 (Qah.l0 kq (l1_0.length : Int) x6_2 x7_2 l0_0 l1_0 a1_1 a1_2 l1_3 a1_4 = some r) ∧ Aside0 (kq ≤ kj2) ∧ Aside0 (w'.heap[gb101]? = some (.cells #[(.slice A0_0 l0_0.length c0_0)] 25 (0, 0))) ∧ Aside0 (w'.heap[gb102]? = some (.cells #[(.slice A1_0 l1_0.length c1_0), .int .i64 a1_1, .int .i64 a1_2, (.slice A1_3 l1_3.length c1_3), .int .i64 a1_4] 46 (0, 0))) ∧ Aside0 (Below w.heap.size w w'))
      case atStart => exact ⟨(0), (0), (by first | rfl | (simp; done) | (simp [*]; done)), (by first | rfl | (simp; done) | (simp [*]; done)), H', ⟨Nat.le_refl _⟩, ⟨by (refine kb_ ?_); exact BK101.out⟩, ⟨by (refine kb_ ?_); exact BK102.out⟩, ⟨bw_⟩⟩
      case round =>
       clear H'
       try clear c1
       try clear c2
       try clear p2
       try clear c3
       try clear c4
       try clear c5
       try clear c6
       try clear p6
       try clear c9
       try clear c11
       try clear c13
       try clear c14
       try clear c14b0
       try clear c15
       try clear c20
       try clear c22
       try clear c23
       try clear c30
       try clear c36
       try clear c40
       try clear c42
       try clear c44
       try clear c48
       try clear c51
       try clear hcz16_0
       try clear hcz18_0
       try clear hcz18_1
       try clear hcz18_2
       try clear hcz18_3
       try clear hcz18_4
       try clear hcz24_0
       try clear hcz26_0
       try clear hcz26_1
       try clear hcz26_2
       try clear hcz26_3
       try clear hcz26_4
       try clear hcz27_0
       try clear hcz29_0
       try clear hcz29_1
       try clear hcz29_2
       try clear hcz29_3
       try clear hcz29_4
       try clear hcz31_0
       try clear hcz33_0
       try clear hcz33_1
       try clear hcz33_2
       try clear hcz33_3
       try clear hcz33_4
       try clear hcz34_0
       try clear hcz37_0
       try clear hcz39_0
       try clear hcz39_1
       try clear hcz39_2
       try clear hcz39_3
       try clear hcz39_4
       try clear hcz41_0
       try clear hcz43_0
       try clear hcz43_1
       try clear hcz43_2
       try clear hcz43_3
       try clear hcz43_4
       try clear hcz45_0
       try clear hcz47_0
       try clear hcz47_1
       try clear hcz47_2
       try clear hcz47_3
       try clear hcz47_4
       try clear hcz49_0
       try clear hcz7_0
       try clear hcz7_1
       try clear hcz7_2
       try clear hcz7_3
       try clear hcz7_4
       try clear hfz16_0
       try clear hfz18_0
       try clear hfz18_1
       try clear hfz18_2
       try clear hfz18_3
       try clear hfz18_4
       try clear hfz24_0
       try clear hfz26_0
       try clear hfz26_1
       try clear hfz26_2
       try clear hfz26_3
       try clear hfz26_4
       try clear hfz27_0
       try clear hfz29_0
       try clear hfz29_1
       try clear hfz29_2
       try clear hfz29_3
       try clear hfz29_4
       try clear hfz31_0
       try clear hfz33_0
       try clear hfz33_1
       try clear hfz33_2
       try clear hfz33_3
       try clear hfz33_4
       try clear hfz34_0
       try clear hfz37_0
       try clear hfz39_0
       try clear hfz39_1
       try clear hfz39_2
       try clear hfz39_3
       try clear hfz39_4
       try clear hfz41_0
       try clear hfz43_0
       try clear hfz43_1
       try clear hfz43_2
       try clear hfz43_3
       try clear hfz43_4
       try clear hfz45_0
       try clear hfz47_0
       try clear hfz47_1
       try clear hfz47_2
       try clear hfz47_3
       try clear hfz47_4
       try clear hfz49_0
       try clear hfz7_0
       try clear hfz7_1
       try clear hfz7_2
       try clear hfz7_3
       try clear hfz7_4
       try clear p2
       try clear p6
       obtain ⟨x6_2, x7_2, rfl, rfl, HA, HK2, BK101, BK102, HB⟩ := hrel
       cases gk with
       | zero => exact absurd HA.out (by simp [Qah.l0])
       | succ k2 =>
         have H := HA.out
         clear HA
         simp only [Qah.l0] at H
         by_cases c52 : x7_2 < (l1_0.length : Int)
         · rw [if_pos c52] at H
           have c52b0 : decide (x7_2 < (l1_0.length : Int)) = true := decide_eq_true c52
           clear c52
           by_cases c53 : 0 ≤ x7_2
           · rw [if_pos c53] at H
             have c53b0 : decide (0 ≤ x7_2) = true := decide_eq_true c53
             clear c53
             by_cases c54 : x7_2 < (l1_0.length : Int)
             · rw [if_pos c54] at H
               have c54b0 : decide (x7_2 < (l1_0.length : Int)) = true := decide_eq_true c54
               clear c54
               replace H := Option.bind_eq_some_iff.mp H
               obtain ⟨t118, A550, H⟩ := H
               replace H : (if t118 = true then (if ((Qaa l1_0 x7_2).f5 = true) then (Qah.l0 k2 (l1_0.length : Int) x6_2 (wrap64 (x7_2 + 1)) l0_0 l1_0 a1_1 a1_2 l1_3 a1_4) else (Qah.l0 k2 (l1_0.length : Int) (wrap64 (x6_2 + 1)) (wrap64 (x7_2 + 1)) l0_0 l1_0 a1_1 a1_2 l1_3 a1_4)) else (some false)) = some r := H
               have A55 := Aside0.mk A550
               clear A550
               by_cases c56 : t118 = true
               · subst c56
                 have H1 : (if ((Qaa l1_0 x7_2).f5 = true) then (Qah.l0 k2 (l1_0.length : Int) x6_2 (wrap64 (x7_2 + 1)) l0_0 l1_0 a1_1 a1_2 l1_3 a1_4) else (Qah.l0 k2 (l1_0.length : Int) (wrap64 (x6_2 + 1)) (wrap64 (x7_2 + 1)) l0_0 l1_0 a1_1 a1_2 l1_3 a1_4)) = some r := by rw [if_pos rfl] at H; exact H
                 clear H
                 have H := H1
                 clear H1
                 obtain ⟨bq57, hbq57⟩ : ∃ b_ : Bool, b_ = ((Qaa l1_0 x7_2).f5) := ⟨_, rfl⟩
                 replace H : (if (bq57 = true) then (Qah.l0 k2 (l1_0.length : Int) x6_2 (wrap64 (x7_2 + 1)) l0_0 l1_0 a1_1 a1_2 l1_3 a1_4) else (Qah.l0 k2 (l1_0.length : Int) (wrap64 (x6_2 + 1)) (wrap64 (x7_2 + 1)) l0_0 l1_0 a1_1 a1_2 l1_3 a1_4)) = some r := by rw [← hbq57] at H; exact H
                 have Nbq57 := Aside0.mk hbq57
                 clear hbq57
                 by_cases c58 : (bq57 = true)
                 · subst c58
                   have H1 : (Qah.l0 k2 (l1_0.length : Int) x6_2 (wrap64 (x7_2 + 1)) l0_0 l1_0 a1_1 a1_2 l1_3 a1_4) = some r := by rw [if_pos rfl] at H; exact H
                   clear H
                   have H := H1
                   clear H1
                   have H' := Aside0.mk H
                   clear H
                   try go_wp2
                   have n0_ := Aside0.mk (Qa2 BK101.out)
                   have n1_ := Aside0.mk (Qa2 BK102.out)
                   have n2_ := Aside0.mk (Qa7 HB.out)
                   clear BK101
                   clear BK102
                   clear HB
                   have BK101 := n0_
                   have BK102 := n1_
                   have HB := n2_
                   clear n0_ n1_ n2_
                   have p117 : 0 ≤ (x7_2 : Int) := of_decide_eq_true (by first | (with_reducible assumption) | assumption)
                   have q117 : x7_2 < (l1_0.length : Int) := of_decide_eq_true (by first | (with_reducible assumption) | assumption)
                   obtain ⟨ad117, A117_2, c117_2, A117_3, c117_3, e117, hx117_0, hx117_1, hx117_2, hx117_3, hx117_4, hx117_5, hl117_2, hi117_2, hl117_3, hi117_3⟩ := Qa9 HR1_0.out x7_2 p117 q117
                   have hw117_5 := hx117_5
                   have hw117_4 := hx117_4
                   have hw117_3 := hx117_3
                   have hw117_2 := hx117_2
                   have hw117_1 := hx117_1
                   have hw117_0 := hx117_0
                   (try rw [← Nbq57.out] at hx117_5)
                   (try (have hA_ := A55.out; rw [← Nbq57.out] at hA_; replace A55 := Aside0.mk hA_; clear hA_))
                   (try rw [← Nbq57.out] at hw117_5)
                   cases e117
                   replace hx117_0 := pc_ HB hx117_0
                   replace hx117_1 := pc_ HB hx117_1
                   replace hx117_2 := pc_ HB hx117_2
                   replace hx117_3 := pc_ HB hx117_3
                   replace hx117_4 := pc_ HB hx117_4
                   replace hx117_5 := pc_ HB hx117_5
                   have HR117_2 := Aside0.mk hi117_2
                   have HC117_2 := Aside0.mk hl117_2
                   clear hi117_2 hl117_2
                   have HR117_3 := Aside0.mk hi117_3
                   have HC117_3 := Aside0.mk hl117_3
                   clear hi117_3 hl117_3
                   replace p117 := eq_true p117
                   replace q117 := eq_true q117
                   refine QbP (n := 9) (S := fun w' => w'.cell? ⟨gb101, 0, none⟩ = some (.slice A0_0 l0_0.length c0_0) ∧ w'.cell? ⟨gb102, 0, none⟩ = some (.slice (some ad117) l1_0.length c1_0) ∧ w'.cell? ⟨gb102, 1, none⟩ = some (.int .i64 a1_1) ∧ w'.cell? ⟨gb102, 2, none⟩ = some (.int .i64 a1_2) ∧ w'.cell? ⟨gb102, 3, none⟩ = some (.slice A1_3 l1_3.length c1_3) ∧ w'.cell? ⟨gb102, 4, none⟩ = some (.int .i64 a1_4) ∧ w'.cell? (ad117.add ((x7_2).toNat * 6)) = some (.int .i64 ((Qaa l1_0 x7_2).f0)) ∧ w'.cell? ⟨(ad117.add ((x7_2).toNat * 6)).block, (ad117.add ((x7_2).toNat * 6)).off + 1, none⟩ = some (.int .i64 ((Qaa l1_0 x7_2).f1)) ∧ w'.cell? ⟨(ad117.add ((x7_2).toNat * 6)).block, (ad117.add ((x7_2).toNat * 6)).off + 2, none⟩ = some (.slice A117_2 ((Qaa l1_0 x7_2).f2).length c117_2) ∧ w'.cell? ⟨(ad117.add ((x7_2).toNat * 6)).block, (ad117.add ((x7_2).toNat * 6)).off + 3, none⟩ = some (.slice A117_3 ((Qaa l1_0 x7_2).f3).length c117_3) ∧ w'.cell? ⟨(ad117.add ((x7_2).toNat * 6)).block, (ad117.add ((x7_2).toNat * 6)).off + 4, none⟩ = some (.int .i64 ((Qaa l1_0 x7_2).f4)) ∧ w'.cell? ⟨(ad117.add ((x7_2).toNat * 6)).block, (ad117.add ((x7_2).toNat * 6)).off + 5, none⟩ = some (.bool true)) (ds := []) #[false, false, false, false, false, false, false, false, false] (by kernel_rfl) rfl rfl ⟨(Qab BK101.out 0).trans rfl, (Qab BK102.out 0).trans rfl, (Qab BK102.out 1).trans rfl, (Qab BK102.out 2).trans rfl, (Qab BK102.out 3).trans rfl, (Qab BK102.out 4).trans rfl, (pc_ HB hw117_0), (pc_ HB hw117_1), (pc_ HB hw117_2), (pc_ HB hw117_3), (pc_ HB hw117_4), (pc_ HB hw117_5)⟩ (fun hHeld => ?_); refine Qbz Qah.tab8 Qah.bits8 (fun HT_ HW_ => ?_)
                   generalize wr.drew = w59 at BK101 BK102 HB HR117_2 HR117_3 hx117_0 hx117_1 hx117_2 hx117_3 hx117_4 hx117_5 hHeld ⊢
                   refine pu_ 1 (some 62) #[false, true, false, false, false, false, false, false, false] rfl rfl ?_
                   refine pu_ 3 (some 64) #[false, true, false, true, false, false, false, false, false] rfl rfl ?_
                   refine pu_ 6 (some 67) #[false, true, false, true, false, false, true, false, false] rfl rfl ?_
                   refine tk_ 0 (some 61) #[true, true, false, true, false, false, true, false, false] rfl rfl hHeld ?_
                   refine tk_ 2 (some 63) #[true, true, true, true, false, false, true, false, false] rfl rfl hHeld ?_
                   refine pu_ 4 (some 65) #[true, true, true, true, true, false, true, false, false] rfl rfl ?_
                   refine tk_ 5 (some 66) #[true, true, true, true, true, true, true, false, false] rfl rfl hHeld ?_
                   refine Qcx (i := 7) (N := some 68) #[true, true, true, true, true, true, true, true, false] rfl rfl (Qb2 HT_.out (by kernel_rfl)) (by decide) (fun K hK => ?_)
                   refine QbL Try.func89 (by kernel_rfl) rfl #[.agg #[.slice A0_0 l0_0.length c0_0], .agg #[.int .i64 ((Qaa l1_0 x7_2).f0), .int .i64 ((Qaa l1_0 x7_2).f1), .slice A117_2 ((Qaa l1_0 x7_2).f2).length c117_2, .slice A117_3 ((Qaa l1_0 x7_2).f3).length c117_3, .int .i64 ((Qaa l1_0 x7_2).f4), .bool true], .int .i64 (l1_0.length : Int)] (by rfl) rfl rfl (by (try simp only [List.map_toArray, List.map_cons, List.map_nil]); first | done | rfl | (simp only [List.length_drop, List.length_take]; rfl)) ?_
                   with_reducible refine (Qat.calls k2 _ _ l0_0 ((Qaa l1_0 x7_2).f0) ((Qaa l1_0 x7_2).f1) _ _ ((Qaa l1_0 x7_2).f2) _ _ ((Qaa l1_0 x7_2).f3) ((Qaa l1_0 x7_2).f4) true (l1_0.length : Int) true _ ?side1 ?side2 ?side3 ?side4 ?side5 ?side6 A55.out).mono ?_
                   (case side1 => exact cb_)
                   (case side2 => exact HC0_0.out)
                   (case side3 => exact cb_)
                   (case side4 => exact HC117_2.out)
                   (case side5 => exact cb_)
                   (case side6 => exact HC117_3.out)
                   rintro e w60 ⟨rfl, hb⟩
                   refine ⟨_, rfl, ?_⟩
                   have n0_ := Aside0.mk (bb_ BK101 hb)
                   have n1_ := Aside0.mk (bb_ BK102 hb)
                   have n2_ := Aside0.mk (Qac (bw_) hb)
                   clear BK101
                   clear BK102
                   clear HB
                   have BK101 := n0_
                   have BK102 := n1_
                   have HB := n2_
                   clear n0_ n1_ n2_
                   (try clear hb)
                   (try clear hb2)
                   (try clear hk)
                   (try clear hi)
                   refine hK.out _ _ ⟨(Qab BK101.out 0).trans rfl, (Qab BK102.out 0).trans rfl, (Qab BK102.out 1).trans rfl, (Qab BK102.out 2).trans rfl, (Qab BK102.out 3).trans rfl, (Qab BK102.out 4).trans rfl, (pc_ HB hw117_0), (pc_ HB hw117_1), (pc_ HB hw117_2), (pc_ HB hw117_3), (pc_ HB hw117_4), (pc_ HB hw117_5)⟩ (fun hHeld => ?_)
                   clear hK K
                   refine QbK (a' := ?_) ?_ ?_
                   rotate_left
                   · show Act.put _ (some 68) _ = _
                     simp only [Act.put, List.setIfInBounds_toArray, List.set_cons_zero, List.set_cons_succ, QbA, QbB]
                     rfl
                   refine pu_ 8 (some 69) #[true, true, true, true, true, true, true, true, true] rfl rfl ?_
                   refine Qcc (QbS HT_.out (by kernel_rfl)) ?_
                   have hnb61 := NB102_101.out
                   have hnc61 := NB101_102.out
                   have hcz62_0 : w60.cell? ⟨gb102, 0, none⟩ = some (.slice (some ad117) l1_0.length c1_0) := (Qab BK102.out 0).trans rfl
                   have hcz62_1 : w60.cell? ⟨gb102, 1, none⟩ = some (.int .i64 a1_1) := (Qab BK102.out 1).trans rfl
                   have hcz62_2 : w60.cell? ⟨gb102, 2, none⟩ = some (.int .i64 a1_2) := (Qab BK102.out 2).trans rfl
                   have hcz62_3 : w60.cell? ⟨gb102, 3, none⟩ = some (.slice A1_3 l1_3.length c1_3) := (Qab BK102.out 3).trans rfl
                   have hcz62_4 : w60.cell? ⟨gb102, 4, none⟩ = some (.int .i64 a1_4) := (Qab BK102.out 4).trans rfl
                   have hfz62_0 := Qad BK102.out 0
                   have hfz62_1 := Qad BK102.out 1
                   have hfz62_2 := Qad BK102.out 2
                   have hfz62_3 := Qad BK102.out 3
                   have hfz62_4 := Qad BK102.out 4
                   have p119 : 0 ≤ (x7_2 : Int) := of_decide_eq_true (by first | (with_reducible assumption) | assumption)
                   have q119 : x7_2 < (l1_0.length : Int) := of_decide_eq_true (by first | (with_reducible assumption) | assumption)
                   obtain ⟨ad119, A119_2, c119_2, A119_3, c119_3, e119, hx119_0, hx119_1, hx119_2, hx119_3, hx119_4, hx119_5, hl119_2, hi119_2, hl119_3, hi119_3⟩ := Qa9 HR1_0.out x7_2 p119 q119
                   (try rw [← Nbq57.out] at hx119_5)
                   (try (have hA_ := A55.out; rw [← Nbq57.out] at hA_; replace A55 := Aside0.mk hA_; clear hA_))
                   (try rw [← Nbq57.out] at hw119_5)
                   obtain rfl : ad117 = ad119 := (by injection e119)
                   replace hx119_0 := pc_ HB hx119_0
                   replace hx119_1 := pc_ HB hx119_1
                   replace hx119_2 := pc_ HB hx119_2
                   replace hx119_3 := pc_ HB hx119_3
                   replace hx119_4 := pc_ HB hx119_4
                   replace hx119_5 := pc_ HB hx119_5
                   have HR119_2 := Aside0.mk hi119_2
                   have HC119_2 := Aside0.mk hl119_2
                   clear hi119_2 hl119_2
                   have HR119_3 := Aside0.mk hi119_3
                   have HC119_3 := Aside0.mk hl119_3
                   clear hi119_3 hl119_3
                   replace p119 := eq_true p119
                   replace q119 := eq_true q119
                   try go_wp2
                   go_roundg k2
                   case measure => have := HJ2.out; have := HK2.out; omega
                   case rel => exact ⟨(x6_2), (wrap64 (x7_2 + 1)), (by first | rfl | (simp; done) | (simp [*]; done)), (by first | rfl | (simp; done) | (simp [*]; done)), H', ⟨by have := HJ2.out; have := HK2.out; omega⟩, ⟨by (refine kb_ ?_); exact BK101.out⟩, ⟨by (refine kb_ ?_); exact BK102.out⟩, ⟨bw_⟩⟩
                 · replace c58 := Bool.eq_false_iff.mpr c58
                   subst c58
                   have H1 : (Qah.l0 k2 (l1_0.length : Int) (wrap64 (x6_2 + 1)) (wrap64 (x7_2 + 1)) l0_0 l1_0 a1_1 a1_2 l1_3 a1_4) = some r := by rw [if_neg (show ¬ (false = true) by decide)] at H; exact H
                   clear H
                   have H := H1
                   clear H1
                   have H' := Aside0.mk H
                   clear H
                   try go_wp2
                   have n0_ := Aside0.mk (Qa2 BK101.out)
                   have n1_ := Aside0.mk (Qa2 BK102.out)
                   have n2_ := Aside0.mk (Qa7 HB.out)
                   clear BK101
                   clear BK102
                   clear HB
                   have BK101 := n0_
                   have BK102 := n1_
                   have HB := n2_
                   clear n0_ n1_ n2_
                   have p117 : 0 ≤ (x7_2 : Int) := of_decide_eq_true (by first | (with_reducible assumption) | assumption)
                   have q117 : x7_2 < (l1_0.length : Int) := of_decide_eq_true (by first | (with_reducible assumption) | assumption)
                   obtain ⟨ad117, A117_2, c117_2, A117_3, c117_3, e117, hx117_0, hx117_1, hx117_2, hx117_3, hx117_4, hx117_5, hl117_2, hi117_2, hl117_3, hi117_3⟩ := Qa9 HR1_0.out x7_2 p117 q117
                   have hw117_5 := hx117_5
                   have hw117_4 := hx117_4
                   have hw117_3 := hx117_3
                   have hw117_2 := hx117_2
                   have hw117_1 := hx117_1
                   have hw117_0 := hx117_0
                   (try rw [← Nbq57.out] at hx117_5)
                   (try (have hA_ := A55.out; rw [← Nbq57.out] at hA_; replace A55 := Aside0.mk hA_; clear hA_))
                   (try rw [← Nbq57.out] at hw117_5)
                   cases e117
                   replace hx117_0 := pc_ HB hx117_0
                   replace hx117_1 := pc_ HB hx117_1
                   replace hx117_2 := pc_ HB hx117_2
                   replace hx117_3 := pc_ HB hx117_3
                   replace hx117_4 := pc_ HB hx117_4
                   replace hx117_5 := pc_ HB hx117_5
                   have HR117_2 := Aside0.mk hi117_2
                   have HC117_2 := Aside0.mk hl117_2
                   clear hi117_2 hl117_2
                   have HR117_3 := Aside0.mk hi117_3
                   have HC117_3 := Aside0.mk hl117_3
                   clear hi117_3 hl117_3
                   replace p117 := eq_true p117
                   replace q117 := eq_true q117
                   refine QbP (n := 9) (S := fun w' => w'.cell? ⟨gb101, 0, none⟩ = some (.slice A0_0 l0_0.length c0_0) ∧ w'.cell? ⟨gb102, 0, none⟩ = some (.slice (some ad117) l1_0.length c1_0) ∧ w'.cell? ⟨gb102, 1, none⟩ = some (.int .i64 a1_1) ∧ w'.cell? ⟨gb102, 2, none⟩ = some (.int .i64 a1_2) ∧ w'.cell? ⟨gb102, 3, none⟩ = some (.slice A1_3 l1_3.length c1_3) ∧ w'.cell? ⟨gb102, 4, none⟩ = some (.int .i64 a1_4) ∧ w'.cell? (ad117.add ((x7_2).toNat * 6)) = some (.int .i64 ((Qaa l1_0 x7_2).f0)) ∧ w'.cell? ⟨(ad117.add ((x7_2).toNat * 6)).block, (ad117.add ((x7_2).toNat * 6)).off + 1, none⟩ = some (.int .i64 ((Qaa l1_0 x7_2).f1)) ∧ w'.cell? ⟨(ad117.add ((x7_2).toNat * 6)).block, (ad117.add ((x7_2).toNat * 6)).off + 2, none⟩ = some (.slice A117_2 ((Qaa l1_0 x7_2).f2).length c117_2) ∧ w'.cell? ⟨(ad117.add ((x7_2).toNat * 6)).block, (ad117.add ((x7_2).toNat * 6)).off + 3, none⟩ = some (.slice A117_3 ((Qaa l1_0 x7_2).f3).length c117_3) ∧ w'.cell? ⟨(ad117.add ((x7_2).toNat * 6)).block, (ad117.add ((x7_2).toNat * 6)).off + 4, none⟩ = some (.int .i64 ((Qaa l1_0 x7_2).f4)) ∧ w'.cell? ⟨(ad117.add ((x7_2).toNat * 6)).block, (ad117.add ((x7_2).toNat * 6)).off + 5, none⟩ = some (.bool false)) (ds := []) #[false, false, false, false, false, false, false, false, false] (by kernel_rfl) rfl rfl ⟨(Qab BK101.out 0).trans rfl, (Qab BK102.out 0).trans rfl, (Qab BK102.out 1).trans rfl, (Qab BK102.out 2).trans rfl, (Qab BK102.out 3).trans rfl, (Qab BK102.out 4).trans rfl, (pc_ HB hw117_0), (pc_ HB hw117_1), (pc_ HB hw117_2), (pc_ HB hw117_3), (pc_ HB hw117_4), (pc_ HB hw117_5)⟩ (fun hHeld => ?_); refine Qbz Qah.tab8 Qah.bits8 (fun HT_ HW_ => ?_)
                   generalize wr.drew = w63 at BK101 BK102 HB HR117_2 HR117_3 hx117_0 hx117_1 hx117_2 hx117_3 hx117_4 hx117_5 hHeld ⊢
                   refine pu_ 1 (some 62) #[false, true, false, false, false, false, false, false, false] rfl rfl ?_
                   refine pu_ 3 (some 64) #[false, true, false, true, false, false, false, false, false] rfl rfl ?_
                   refine pu_ 6 (some 67) #[false, true, false, true, false, false, true, false, false] rfl rfl ?_
                   refine tk_ 0 (some 61) #[true, true, false, true, false, false, true, false, false] rfl rfl hHeld ?_
                   refine tk_ 2 (some 63) #[true, true, true, true, false, false, true, false, false] rfl rfl hHeld ?_
                   refine pu_ 4 (some 65) #[true, true, true, true, true, false, true, false, false] rfl rfl ?_
                   refine tk_ 5 (some 66) #[true, true, true, true, true, true, true, false, false] rfl rfl hHeld ?_
                   refine Qcx (i := 7) (N := some 68) #[true, true, true, true, true, true, true, true, false] rfl rfl (Qb2 HT_.out (by kernel_rfl)) (by decide) (fun K hK => ?_)
                   refine QbL Try.func89 (by kernel_rfl) rfl #[.agg #[.slice A0_0 l0_0.length c0_0], .agg #[.int .i64 ((Qaa l1_0 x7_2).f0), .int .i64 ((Qaa l1_0 x7_2).f1), .slice A117_2 ((Qaa l1_0 x7_2).f2).length c117_2, .slice A117_3 ((Qaa l1_0 x7_2).f3).length c117_3, .int .i64 ((Qaa l1_0 x7_2).f4), .bool false], .int .i64 (l1_0.length : Int)] (by rfl) rfl rfl (by (try simp only [List.map_toArray, List.map_cons, List.map_nil]); first | done | rfl | (simp only [List.length_drop, List.length_take]; rfl)) ?_
                   with_reducible refine (Qat.calls k2 _ _ l0_0 ((Qaa l1_0 x7_2).f0) ((Qaa l1_0 x7_2).f1) _ _ ((Qaa l1_0 x7_2).f2) _ _ ((Qaa l1_0 x7_2).f3) ((Qaa l1_0 x7_2).f4) false (l1_0.length : Int) true _ ?side1 ?side2 ?side3 ?side4 ?side5 ?side6 A55.out).mono ?_
                   (case side1 => exact cb_)
                   (case side2 => exact HC0_0.out)
                   (case side3 => exact cb_)
                   (case side4 => exact HC117_2.out)
                   (case side5 => exact cb_)
                   (case side6 => exact HC117_3.out)
                   rintro e w64 ⟨rfl, hb⟩
                   refine ⟨_, rfl, ?_⟩
                   have n0_ := Aside0.mk (bb_ BK101 hb)
                   have n1_ := Aside0.mk (bb_ BK102 hb)
                   have n2_ := Aside0.mk (Qac (bw_) hb)
                   clear BK101
                   clear BK102
                   clear HB
                   have BK101 := n0_
                   have BK102 := n1_
                   have HB := n2_
                   clear n0_ n1_ n2_
                   (try clear hb)
                   (try clear hb2)
                   (try clear hk)
                   (try clear hi)
                   refine hK.out _ _ ⟨(Qab BK101.out 0).trans rfl, (Qab BK102.out 0).trans rfl, (Qab BK102.out 1).trans rfl, (Qab BK102.out 2).trans rfl, (Qab BK102.out 3).trans rfl, (Qab BK102.out 4).trans rfl, (pc_ HB hw117_0), (pc_ HB hw117_1), (pc_ HB hw117_2), (pc_ HB hw117_3), (pc_ HB hw117_4), (pc_ HB hw117_5)⟩ (fun hHeld => ?_)
                   clear hK K
                   refine QbK (a' := ?_) ?_ ?_
                   rotate_left
                   · show Act.put _ (some 68) _ = _
                     simp only [Act.put, List.setIfInBounds_toArray, List.set_cons_zero, List.set_cons_succ, QbA, QbB]
                     rfl
                   refine pu_ 8 (some 69) #[true, true, true, true, true, true, true, true, true] rfl rfl ?_
                   refine Qcc (QbS HT_.out (by kernel_rfl)) ?_
                   have hnb65 := NB102_101.out
                   have hnc65 := NB101_102.out
                   have hcz66_0 : w64.cell? ⟨gb102, 0, none⟩ = some (.slice (some ad117) l1_0.length c1_0) := (Qab BK102.out 0).trans rfl
                   have hcz66_1 : w64.cell? ⟨gb102, 1, none⟩ = some (.int .i64 a1_1) := (Qab BK102.out 1).trans rfl
                   have hcz66_2 : w64.cell? ⟨gb102, 2, none⟩ = some (.int .i64 a1_2) := (Qab BK102.out 2).trans rfl
                   have hcz66_3 : w64.cell? ⟨gb102, 3, none⟩ = some (.slice A1_3 l1_3.length c1_3) := (Qab BK102.out 3).trans rfl
                   have hcz66_4 : w64.cell? ⟨gb102, 4, none⟩ = some (.int .i64 a1_4) := (Qab BK102.out 4).trans rfl
                   have hfz66_0 := Qad BK102.out 0
                   have hfz66_1 := Qad BK102.out 1
                   have hfz66_2 := Qad BK102.out 2
                   have hfz66_3 := Qad BK102.out 3
                   have hfz66_4 := Qad BK102.out 4
                   have p119 : 0 ≤ (x7_2 : Int) := of_decide_eq_true (by first | (with_reducible assumption) | assumption)
                   have q119 : x7_2 < (l1_0.length : Int) := of_decide_eq_true (by first | (with_reducible assumption) | assumption)
                   obtain ⟨ad119, A119_2, c119_2, A119_3, c119_3, e119, hx119_0, hx119_1, hx119_2, hx119_3, hx119_4, hx119_5, hl119_2, hi119_2, hl119_3, hi119_3⟩ := Qa9 HR1_0.out x7_2 p119 q119
                   (try rw [← Nbq57.out] at hx119_5)
                   (try (have hA_ := A55.out; rw [← Nbq57.out] at hA_; replace A55 := Aside0.mk hA_; clear hA_))
                   (try rw [← Nbq57.out] at hw119_5)
                   obtain rfl : ad117 = ad119 := (by injection e119)
                   replace hx119_0 := pc_ HB hx119_0
                   replace hx119_1 := pc_ HB hx119_1
                   replace hx119_2 := pc_ HB hx119_2
                   replace hx119_3 := pc_ HB hx119_3
                   replace hx119_4 := pc_ HB hx119_4
                   replace hx119_5 := pc_ HB hx119_5
                   have HR119_2 := Aside0.mk hi119_2
                   have HC119_2 := Aside0.mk hl119_2
                   clear hi119_2 hl119_2
                   have HR119_3 := Aside0.mk hi119_3
                   have HC119_3 := Aside0.mk hl119_3
                   clear hi119_3 hl119_3
                   replace p119 := eq_true p119
                   replace q119 := eq_true q119
                   try go_wp2
                   go_roundg k2
                   case measure => have := HJ2.out; have := HK2.out; omega
                   case rel => exact ⟨(wrap64 (x6_2 + 1)), (wrap64 (x7_2 + 1)), (by first | rfl | (simp; done) | (simp [*]; done)), (by first | rfl | (simp; done) | (simp [*]; done)), H', ⟨by have := HJ2.out; have := HK2.out; omega⟩, ⟨by (refine kb_ ?_); exact BK101.out⟩, ⟨by (refine kb_ ?_); exact BK102.out⟩, ⟨bw_⟩⟩
               · replace c56 := Bool.eq_false_iff.mpr c56
                 subst c56
                 have H1 : (some false) = some r := by rw [if_neg (show ¬ (false = true) by decide)] at H; exact H
                 clear H
                 have H := H1
                 clear H1
                 obtain rfl := Option.some.inj H
                 try go_wp2
                 have n0_ := Aside0.mk (Qa2 BK101.out)
                 have n1_ := Aside0.mk (Qa2 BK102.out)
                 have n2_ := Aside0.mk (Qa7 HB.out)
                 clear BK101
                 clear BK102
                 clear HB
                 have BK101 := n0_
                 have BK102 := n1_
                 have HB := n2_
                 clear n0_ n1_ n2_
                 have p117 : 0 ≤ (x7_2 : Int) := of_decide_eq_true (by first | (with_reducible assumption) | assumption)
                 have q117 : x7_2 < (l1_0.length : Int) := of_decide_eq_true (by first | (with_reducible assumption) | assumption)
                 obtain ⟨ad117, A117_2, c117_2, A117_3, c117_3, e117, hx117_0, hx117_1, hx117_2, hx117_3, hx117_4, hx117_5, hl117_2, hi117_2, hl117_3, hi117_3⟩ := Qa9 HR1_0.out x7_2 p117 q117
                 have hw117_5 := hx117_5
                 have hw117_4 := hx117_4
                 have hw117_3 := hx117_3
                 have hw117_2 := hx117_2
                 have hw117_1 := hx117_1
                 have hw117_0 := hx117_0
                 cases e117
                 replace hx117_0 := pc_ HB hx117_0
                 replace hx117_1 := pc_ HB hx117_1
                 replace hx117_2 := pc_ HB hx117_2
                 replace hx117_3 := pc_ HB hx117_3
                 replace hx117_4 := pc_ HB hx117_4
                 replace hx117_5 := pc_ HB hx117_5
                 have HR117_2 := Aside0.mk hi117_2
                 have HC117_2 := Aside0.mk hl117_2
                 clear hi117_2 hl117_2
                 have HR117_3 := Aside0.mk hi117_3
                 have HC117_3 := Aside0.mk hl117_3
                 clear hi117_3 hl117_3
                 replace p117 := eq_true p117
                 replace q117 := eq_true q117
                 refine QbP (n := 9) (S := fun w' => w'.cell? ⟨gb101, 0, none⟩ = some (.slice A0_0 l0_0.length c0_0) ∧ w'.cell? ⟨gb102, 0, none⟩ = some (.slice (some ad117) l1_0.length c1_0) ∧ w'.cell? ⟨gb102, 1, none⟩ = some (.int .i64 a1_1) ∧ w'.cell? ⟨gb102, 2, none⟩ = some (.int .i64 a1_2) ∧ w'.cell? ⟨gb102, 3, none⟩ = some (.slice A1_3 l1_3.length c1_3) ∧ w'.cell? ⟨gb102, 4, none⟩ = some (.int .i64 a1_4) ∧ w'.cell? (ad117.add ((x7_2).toNat * 6)) = some (.int .i64 ((Qaa l1_0 x7_2).f0)) ∧ w'.cell? ⟨(ad117.add ((x7_2).toNat * 6)).block, (ad117.add ((x7_2).toNat * 6)).off + 1, none⟩ = some (.int .i64 ((Qaa l1_0 x7_2).f1)) ∧ w'.cell? ⟨(ad117.add ((x7_2).toNat * 6)).block, (ad117.add ((x7_2).toNat * 6)).off + 2, none⟩ = some (.slice A117_2 ((Qaa l1_0 x7_2).f2).length c117_2) ∧ w'.cell? ⟨(ad117.add ((x7_2).toNat * 6)).block, (ad117.add ((x7_2).toNat * 6)).off + 3, none⟩ = some (.slice A117_3 ((Qaa l1_0 x7_2).f3).length c117_3) ∧ w'.cell? ⟨(ad117.add ((x7_2).toNat * 6)).block, (ad117.add ((x7_2).toNat * 6)).off + 4, none⟩ = some (.int .i64 ((Qaa l1_0 x7_2).f4)) ∧ w'.cell? ⟨(ad117.add ((x7_2).toNat * 6)).block, (ad117.add ((x7_2).toNat * 6)).off + 5, none⟩ = some (.bool ((Qaa l1_0 x7_2).f5))) (ds := []) #[false, false, false, false, false, false, false, false, false] (by kernel_rfl) rfl rfl ⟨(Qab BK101.out 0).trans rfl, (Qab BK102.out 0).trans rfl, (Qab BK102.out 1).trans rfl, (Qab BK102.out 2).trans rfl, (Qab BK102.out 3).trans rfl, (Qab BK102.out 4).trans rfl, (pc_ HB hw117_0), (pc_ HB hw117_1), (pc_ HB hw117_2), (pc_ HB hw117_3), (pc_ HB hw117_4), (pc_ HB hw117_5)⟩ (fun hHeld => ?_); refine Qbz Qah.tab8 Qah.bits8 (fun HT_ HW_ => ?_)
                 generalize wr.drew = w67 at BK101 BK102 HB HR117_2 HR117_3 hx117_0 hx117_1 hx117_2 hx117_3 hx117_4 hx117_5 hHeld ⊢
                 refine pu_ 1 (some 62) #[false, true, false, false, false, false, false, false, false] rfl rfl ?_
                 refine pu_ 3 (some 64) #[false, true, false, true, false, false, false, false, false] rfl rfl ?_
                 refine pu_ 6 (some 67) #[false, true, false, true, false, false, true, false, false] rfl rfl ?_
                 refine tk_ 0 (some 61) #[true, true, false, true, false, false, true, false, false] rfl rfl hHeld ?_
                 refine tk_ 2 (some 63) #[true, true, true, true, false, false, true, false, false] rfl rfl hHeld ?_
                 refine pu_ 4 (some 65) #[true, true, true, true, true, false, true, false, false] rfl rfl ?_
                 refine tk_ 5 (some 66) #[true, true, true, true, true, true, true, false, false] rfl rfl hHeld ?_
                 refine Qcx (i := 7) (N := some 68) #[true, true, true, true, true, true, true, true, false] rfl rfl (Qb2 HT_.out (by kernel_rfl)) (by decide) (fun K hK => ?_)
                 refine QbL Try.func89 (by kernel_rfl) rfl #[.agg #[.slice A0_0 l0_0.length c0_0], .agg #[.int .i64 ((Qaa l1_0 x7_2).f0), .int .i64 ((Qaa l1_0 x7_2).f1), .slice A117_2 ((Qaa l1_0 x7_2).f2).length c117_2, .slice A117_3 ((Qaa l1_0 x7_2).f3).length c117_3, .int .i64 ((Qaa l1_0 x7_2).f4), .bool ((Qaa l1_0 x7_2).f5)], .int .i64 (l1_0.length : Int)] (by rfl) rfl rfl (by (try simp only [List.map_toArray, List.map_cons, List.map_nil]); first | done | rfl | (simp only [List.length_drop, List.length_take]; rfl)) ?_
                 with_reducible refine (Qat.calls k2 _ _ l0_0 ((Qaa l1_0 x7_2).f0) ((Qaa l1_0 x7_2).f1) _ _ ((Qaa l1_0 x7_2).f2) _ _ ((Qaa l1_0 x7_2).f3) ((Qaa l1_0 x7_2).f4) ((Qaa l1_0 x7_2).f5) (l1_0.length : Int) false _ ?side1 ?side2 ?side3 ?side4 ?side5 ?side6 A55.out).mono ?_
                 (case side1 => exact cb_)
                 (case side2 => exact HC0_0.out)
                 (case side3 => exact cb_)
                 (case side4 => exact HC117_2.out)
                 (case side5 => exact cb_)
                 (case side6 => exact HC117_3.out)
                 rintro e w68 ⟨rfl, hb⟩
                 refine ⟨_, rfl, ?_⟩
                 have n0_ := Aside0.mk (bb_ BK101 hb)
                 have n1_ := Aside0.mk (bb_ BK102 hb)
                 have n2_ := Aside0.mk (Qac (bw_) hb)
                 clear BK101
                 clear BK102
                 clear HB
                 have BK101 := n0_
                 have BK102 := n1_
                 have HB := n2_
                 clear n0_ n1_ n2_
                 (try clear hb)
                 (try clear hb2)
                 (try clear hk)
                 (try clear hi)
                 refine hK.out _ _ ⟨(Qab BK101.out 0).trans rfl, (Qab BK102.out 0).trans rfl, (Qab BK102.out 1).trans rfl, (Qab BK102.out 2).trans rfl, (Qab BK102.out 3).trans rfl, (Qab BK102.out 4).trans rfl, (pc_ HB hw117_0), (pc_ HB hw117_1), (pc_ HB hw117_2), (pc_ HB hw117_3), (pc_ HB hw117_4), (pc_ HB hw117_5)⟩ (fun hHeld => ?_)
                 clear hK K
                 refine QbK (a' := ?_) ?_ ?_
                 rotate_left
                 · show Act.put _ (some 68) _ = _
                   simp only [Act.put, List.setIfInBounds_toArray, List.set_cons_zero, List.set_cons_succ, QbA, QbB]
                   rfl
                 refine pu_ 8 (some 69) #[true, true, true, true, true, true, true, true, true] rfl rfl ?_
                 refine Qcc (QbS HT_.out (by kernel_rfl)) ?_
                 try go_wp2
                 go_ret
                 exact ⟨by first | rfl | (simp [Qaf, Qag] <;> rfl) | (simp [*, Qaf, Qag] <;> rfl), bw_⟩
             · rw [if_neg c54] at H
               exact absurd H (by simp)
           · rw [if_neg c53] at H
             exact absurd H (by simp)
         · rw [if_neg c52] at H
           have c52b0 : decide (x7_2 < (l1_0.length : Int)) = false := decide_eq_false c52
           clear c52
           by_cases c69 : a1_1 < 0
           · rw [if_pos c69] at H
             have c69b0 : decide (a1_1 < 0) = true := decide_eq_true c69
             clear c69
             replace H := Option.bind_eq_some_iff.mp H
             obtain ⟨t108, A700, H⟩ := H
             replace H : (if (t108.length : Int) = x6_2 then ((QaF.f k2 l1_0 a1_1 a1_2 l1_3 a1_4).bind fun t111 => (some t111)) else (some false)) = some r := H
             have A70 := Aside0.mk A700
             clear A700
             by_cases c71 : (t108.length : Int) = x6_2
             · rw [if_pos c71] at H
               have c71b0 : ((t108.length : Int) == x6_2) = true := beq_iff_eq.mpr c71
               have c71b1 : ((t108.length : Int) != x6_2) = false := bne_eq_false_iff_eq.mpr c71
               clear c71
               replace H := Option.bind_eq_some_iff.mp H
               obtain ⟨t111, A720, H⟩ := H
               replace H : (some t111) = some r := H
               have A72 := Aside0.mk A720
               clear A720
               obtain rfl := Option.some.inj H
               have hnb73 := NB102_101.out
               have hnc73 := NB101_102.out
               have hcz74_0 : wr.cell? ⟨gb102, 0, none⟩ = some (.slice A1_0 l1_0.length c1_0) := (Qab BK102.out 0).trans rfl
               have hcz74_1 : wr.cell? ⟨gb102, 1, none⟩ = some (.int .i64 a1_1) := (Qab BK102.out 1).trans rfl
               have hcz74_2 : wr.cell? ⟨gb102, 2, none⟩ = some (.int .i64 a1_2) := (Qab BK102.out 2).trans rfl
               have hcz74_3 : wr.cell? ⟨gb102, 3, none⟩ = some (.slice A1_3 l1_3.length c1_3) := (Qab BK102.out 3).trans rfl
               have hcz74_4 : wr.cell? ⟨gb102, 4, none⟩ = some (.int .i64 a1_4) := (Qab BK102.out 4).trans rfl
               have hfz74_0 := Qad BK102.out 0
               have hfz74_1 := Qad BK102.out 1
               have hfz74_2 := Qad BK102.out 2
               have hfz74_3 := Qad BK102.out 3
               have hfz74_4 := Qad BK102.out 4
               go_wp2_with (first | (go_at_call 90; (with_reducible refine (Qau.calls k2 _ _ l1_0 a1_1 a1_2 _ _ l1_3 a1_4 t108 _ ?side1 ?side2 ?side3 ?side4 A70.out).mono ?_); (case side1 => exact cb_); (case side2 => exact HC1_0.out); (case side3 => exact cb_); (case side4 => exact HC1_3.out); rintro e w75 ⟨v109, rfl, ho0, hb⟩; have n0_ := Aside0.mk (Kd.R_lower ho0 (QaE (bw_))); have n1_ := Aside0.mk (bb_ BK101 hb); have n2_ := Aside0.mk (bb_ BK102 hb); have n3_ := Aside0.mk (Qac (bw_) hb); clear BK101; clear BK102; clear HB; have HO110 := n0_; have BK101 := n1_; have BK102 := n2_; have HB := n3_; clear n0_ n1_ n2_ n3_; (try clear hb); (try clear hb2); (try clear hk); (try clear hi); (try clear ho0); obtain ⟨Ao76, co76, eo76⟩ := Kd.R_slice HO110.out; subst eo76; obtain ⟨hcz77_0, hcz77_1, hcz77_2, hcz77_3, hcz77_4, hfz77_0, hfz77_1, hfz77_2, hfz77_3, hfz77_4⟩ := Qbe BK102.out) | (go_at_call 91; (with_reducible refine (QaF.calls k2 _ _ l1_0 a1_1 a1_2 _ _ l1_3 a1_4 t111 _ ?side1 ?side2 ?side3 ?side4 A72.out).mono ?_); (case side1 => exact cb_); (case side2 => exact HC1_0.out); (case side3 => exact cb_); (case side4 => exact HC1_3.out); rintro e w78 ⟨rfl, hb⟩; have n0_ := Aside0.mk (Kd.R_below (by (refine QbI ?_); exact HO110.out) hb); have n1_ := Aside0.mk (bb_ BK101 hb); have n2_ := Aside0.mk (bb_ BK102 hb); have n3_ := Aside0.mk (Qac (bw_) hb); clear HO110; clear BK101; clear BK102; clear HB; have HO110 := n0_; have BK101 := n1_; have BK102 := n2_; have HB := n3_; clear n0_ n1_ n2_ n3_; (try clear hb); (try clear hb2); (try clear hk); (try clear hi)))
               go_ret
               exact ⟨by first | rfl | (simp [Qaf, Qag] <;> rfl) | (simp [*, Qaf, Qag] <;> rfl), bw_⟩
             · rw [if_neg c71] at H
               have c71b0 : ((t108.length : Int) == x6_2) = false := beq_eq_false_iff_ne.mpr c71
               have c71b1 : ((t108.length : Int) != x6_2) = true := bne_iff_ne.mpr c71
               obtain rfl := Option.some.inj H
               have hnb79 := NB102_101.out
               have hnc79 := NB101_102.out
               have hcz80_0 : wr.cell? ⟨gb102, 0, none⟩ = some (.slice A1_0 l1_0.length c1_0) := (Qab BK102.out 0).trans rfl
               have hcz80_1 : wr.cell? ⟨gb102, 1, none⟩ = some (.int .i64 a1_1) := (Qab BK102.out 1).trans rfl
               have hcz80_2 : wr.cell? ⟨gb102, 2, none⟩ = some (.int .i64 a1_2) := (Qab BK102.out 2).trans rfl
               have hcz80_3 : wr.cell? ⟨gb102, 3, none⟩ = some (.slice A1_3 l1_3.length c1_3) := (Qab BK102.out 3).trans rfl
               have hcz80_4 : wr.cell? ⟨gb102, 4, none⟩ = some (.int .i64 a1_4) := (Qab BK102.out 4).trans rfl
               have hfz80_0 := Qad BK102.out 0
               have hfz80_1 := Qad BK102.out 1
               have hfz80_2 := Qad BK102.out 2
               have hfz80_3 := Qad BK102.out 3
               have hfz80_4 := Qad BK102.out 4
               go_wp2_with (first | (go_at_call 90; (with_reducible refine (Qau.calls k2 _ _ l1_0 a1_1 a1_2 _ _ l1_3 a1_4 t108 _ ?side1 ?side2 ?side3 ?side4 A70.out).mono ?_); (case side1 => exact cb_); (case side2 => exact HC1_0.out); (case side3 => exact cb_); (case side4 => exact HC1_3.out); rintro e w81 ⟨v109, rfl, ho0, hb⟩; have n0_ := Aside0.mk (Kd.R_lower ho0 (QaE (bw_))); have n1_ := Aside0.mk (bb_ BK101 hb); have n2_ := Aside0.mk (bb_ BK102 hb); have n3_ := Aside0.mk (Qac (bw_) hb); clear BK101; clear BK102; clear HB; have HO110 := n0_; have BK101 := n1_; have BK102 := n2_; have HB := n3_; clear n0_ n1_ n2_ n3_; (try clear hb); (try clear hb2); (try clear hk); (try clear hi); (try clear ho0); obtain ⟨Ao82, co82, eo82⟩ := Kd.R_slice HO110.out; subst eo82))
               go_ret
               exact ⟨by first | rfl | (simp [Qaf, Qag] <;> rfl) | (simp [*, Qaf, Qag] <;> rfl), bw_⟩
           · rw [if_neg c69] at H
             have c69b0 : decide (a1_1 < 0) = false := decide_eq_false c69
             clear c69
             by_cases c83 : 0 ≤ a1_1
             · rw [if_pos c83] at H
               have c83b0 : decide (0 ≤ a1_1) = true := decide_eq_true c83
               clear c83
               by_cases c84 : a1_1 < (l1_0.length : Int)
               · rw [if_pos c84] at H
                 have c84b0 : decide (a1_1 < (l1_0.length : Int)) = true := decide_eq_true c84
                 clear c84
                 obtain ⟨bq85, hbq85⟩ : ∃ b_ : Bool, b_ = ((Qaa l1_0 a1_1).f5) := ⟨_, rfl⟩
                 replace H : (if (bq85 = true) then (some false) else ((Qau.f k2 l1_0 a1_1 a1_2 l1_3 a1_4).bind fun t113 => (if (t113.length : Int) = x6_2 then ((QaF.f k2 l1_0 a1_1 a1_2 l1_3 a1_4).bind fun t116 => (some t116)) else (some false)))) = some r := by rw [← hbq85] at H; exact H
                 have Nbq85 := Aside0.mk hbq85
                 clear hbq85
                 by_cases c86 : (bq85 = true)
                 · subst c86
                   have H1 : (some false) = some r := by rw [if_pos rfl] at H; exact H
                   clear H
                   have H := H1
                   clear H1
                   obtain rfl := Option.some.inj H
                   have hnb87 := NB102_101.out
                   have hnc87 := NB101_102.out
                   have hcz88_0 : wr.cell? ⟨gb102, 0, none⟩ = some (.slice A1_0 l1_0.length c1_0) := (Qab BK102.out 0).trans rfl
                   have hcz88_1 : wr.cell? ⟨gb102, 1, none⟩ = some (.int .i64 a1_1) := (Qab BK102.out 1).trans rfl
                   have hcz88_2 : wr.cell? ⟨gb102, 2, none⟩ = some (.int .i64 a1_2) := (Qab BK102.out 2).trans rfl
                   have hcz88_3 : wr.cell? ⟨gb102, 3, none⟩ = some (.slice A1_3 l1_3.length c1_3) := (Qab BK102.out 3).trans rfl
                   have hcz88_4 : wr.cell? ⟨gb102, 4, none⟩ = some (.int .i64 a1_4) := (Qab BK102.out 4).trans rfl
                   have hfz88_0 := Qad BK102.out 0
                   have hfz88_1 := Qad BK102.out 1
                   have hfz88_2 := Qad BK102.out 2
                   have hfz88_3 := Qad BK102.out 3
                   have hfz88_4 := Qad BK102.out 4
                   have p112 : 0 ≤ (a1_1 : Int) := of_decide_eq_true (by first | (with_reducible assumption) | assumption)
                   have q112 : a1_1 < (l1_0.length : Int) := of_decide_eq_true (by first | (with_reducible assumption) | assumption)
                   obtain ⟨ad112, A112_2, c112_2, A112_3, c112_3, e112, hx112_0, hx112_1, hx112_2, hx112_3, hx112_4, hx112_5, hl112_2, hi112_2, hl112_3, hi112_3⟩ := Qa9 HR1_0.out a1_1 p112 q112
                   (try rw [← Nbq85.out] at hx112_5)
                   (try (have hA_ := A72.out; rw [← Nbq85.out] at hA_; replace A72 := Aside0.mk hA_; clear hA_))
                   (try rw [← Nbq85.out] at hw112_5)
                   cases e112
                   replace hx112_0 := pc_ HB hx112_0
                   replace hx112_1 := pc_ HB hx112_1
                   replace hx112_2 := pc_ HB hx112_2
                   replace hx112_3 := pc_ HB hx112_3
                   replace hx112_4 := pc_ HB hx112_4
                   replace hx112_5 := pc_ HB hx112_5
                   have HR112_2 := Aside0.mk hi112_2
                   have HC112_2 := Aside0.mk hl112_2
                   clear hi112_2 hl112_2
                   have HR112_3 := Aside0.mk hi112_3
                   have HC112_3 := Aside0.mk hl112_3
                   clear hi112_3 hl112_3
                   replace p112 := eq_true p112
                   replace q112 := eq_true q112
                   go_wp2
                   go_ret
                   exact ⟨by first | rfl | (simp [Qaf, Qag] <;> rfl) | (simp [*, Qaf, Qag] <;> rfl), bw_⟩
                 · replace c86 := Bool.eq_false_iff.mpr c86
                   subst c86
                   have H1 : ((Qau.f k2 l1_0 a1_1 a1_2 l1_3 a1_4).bind fun t113 => (if (t113.length : Int) = x6_2 then ((QaF.f k2 l1_0 a1_1 a1_2 l1_3 a1_4).bind fun t116 => (some t116)) else (some false))) = some r := by rw [if_neg (show ¬ (false = true) by decide)] at H; exact H
                   clear H
                   have H := H1
                   clear H1
                   replace H := Option.bind_eq_some_iff.mp H
                   obtain ⟨t113, A890, H⟩ := H
                   replace H : (if (t113.length : Int) = x6_2 then ((QaF.f k2 l1_0 a1_1 a1_2 l1_3 a1_4).bind fun t116 => (some t116)) else (some false)) = some r := H
                   have A89 := Aside0.mk A890
                   clear A890
                   by_cases c90 : (t113.length : Int) = x6_2
                   · rw [if_pos c90] at H
                     have c90b0 : ((t113.length : Int) == x6_2) = true := beq_iff_eq.mpr c90
                     have c90b1 : ((t113.length : Int) != x6_2) = false := bne_eq_false_iff_eq.mpr c90
                     clear c90
                     replace H := Option.bind_eq_some_iff.mp H
                     obtain ⟨t116, A910, H⟩ := H
                     replace H : (some t116) = some r := H
                     have A91 := Aside0.mk A910
                     clear A910
                     obtain rfl := Option.some.inj H
                     have hnb92 := NB102_101.out
                     have hnc92 := NB101_102.out
                     have hcz93_0 : wr.cell? ⟨gb102, 0, none⟩ = some (.slice A1_0 l1_0.length c1_0) := (Qab BK102.out 0).trans rfl
                     have hcz93_1 : wr.cell? ⟨gb102, 1, none⟩ = some (.int .i64 a1_1) := (Qab BK102.out 1).trans rfl
                     have hcz93_2 : wr.cell? ⟨gb102, 2, none⟩ = some (.int .i64 a1_2) := (Qab BK102.out 2).trans rfl
                     have hcz93_3 : wr.cell? ⟨gb102, 3, none⟩ = some (.slice A1_3 l1_3.length c1_3) := (Qab BK102.out 3).trans rfl
                     have hcz93_4 : wr.cell? ⟨gb102, 4, none⟩ = some (.int .i64 a1_4) := (Qab BK102.out 4).trans rfl
                     have hfz93_0 := Qad BK102.out 0
                     have hfz93_1 := Qad BK102.out 1
                     have hfz93_2 := Qad BK102.out 2
                     have hfz93_3 := Qad BK102.out 3
                     have hfz93_4 := Qad BK102.out 4
                     have p112 : 0 ≤ (a1_1 : Int) := of_decide_eq_true (by first | (with_reducible assumption) | assumption)
                     have q112 : a1_1 < (l1_0.length : Int) := of_decide_eq_true (by first | (with_reducible assumption) | assumption)
                     obtain ⟨ad112, A112_2, c112_2, A112_3, c112_3, e112, hx112_0, hx112_1, hx112_2, hx112_3, hx112_4, hx112_5, hl112_2, hi112_2, hl112_3, hi112_3⟩ := Qa9 HR1_0.out a1_1 p112 q112
                     (try rw [← Nbq85.out] at hx112_5)
                     (try (have hA_ := A91.out; rw [← Nbq85.out] at hA_; replace A91 := Aside0.mk hA_; clear hA_))
                     (try rw [← Nbq85.out] at hw112_5)
                     cases e112
                     replace hx112_0 := pc_ HB hx112_0
                     replace hx112_1 := pc_ HB hx112_1
                     replace hx112_2 := pc_ HB hx112_2
                     replace hx112_3 := pc_ HB hx112_3
                     replace hx112_4 := pc_ HB hx112_4
                     replace hx112_5 := pc_ HB hx112_5
                     have HR112_2 := Aside0.mk hi112_2
                     have HC112_2 := Aside0.mk hl112_2
                     clear hi112_2 hl112_2
                     have HR112_3 := Aside0.mk hi112_3
                     have HC112_3 := Aside0.mk hl112_3
                     clear hi112_3 hl112_3
                     replace p112 := eq_true p112
                     replace q112 := eq_true q112
                     go_wp2_with (first | (go_at_call 90; (with_reducible refine (Qau.calls k2 _ _ l1_0 a1_1 a1_2 _ _ l1_3 a1_4 t113 _ ?side1 ?side2 ?side3 ?side4 A89.out).mono ?_); (case side1 => exact cb_); (case side2 => exact HC1_0.out); (case side3 => exact cb_); (case side4 => exact HC1_3.out); rintro e w94 ⟨v114, rfl, ho0, hb⟩; have n0_ := Aside0.mk (Kd.R_lower ho0 (QaE (bw_))); have n1_ := Aside0.mk (bb_ BK101 hb); have n2_ := Aside0.mk (bb_ BK102 hb); have n3_ := Aside0.mk (Qac (bw_) hb); clear BK101; clear BK102; clear HB; have HO115 := n0_; have BK101 := n1_; have BK102 := n2_; have HB := n3_; clear n0_ n1_ n2_ n3_; (try clear hb); (try clear hb2); (try clear hk); (try clear hi); (try clear ho0); obtain ⟨Ao95, co95, eo95⟩ := Kd.R_slice HO115.out; subst eo95; obtain ⟨hcz96_0, hcz96_1, hcz96_2, hcz96_3, hcz96_4, hfz96_0, hfz96_1, hfz96_2, hfz96_3, hfz96_4⟩ := Qbe BK102.out) | (go_at_call 91; (with_reducible refine (QaF.calls k2 _ _ l1_0 a1_1 a1_2 _ _ l1_3 a1_4 t116 _ ?side1 ?side2 ?side3 ?side4 A91.out).mono ?_); (case side1 => exact cb_); (case side2 => exact HC1_0.out); (case side3 => exact cb_); (case side4 => exact HC1_3.out); rintro e w97 ⟨rfl, hb⟩; have n0_ := Aside0.mk (Kd.R_below (by (refine QbI ?_); exact HO115.out) hb); have n1_ := Aside0.mk (bb_ BK101 hb); have n2_ := Aside0.mk (bb_ BK102 hb); have n3_ := Aside0.mk (Qac (bw_) hb); clear HO115; clear BK101; clear BK102; clear HB; have HO115 := n0_; have BK101 := n1_; have BK102 := n2_; have HB := n3_; clear n0_ n1_ n2_ n3_; (try clear hb); (try clear hb2); (try clear hk); (try clear hi)))
                     go_ret
                     exact ⟨by first | rfl | (simp [Qaf, Qag] <;> rfl) | (simp [*, Qaf, Qag] <;> rfl), bw_⟩
                   · rw [if_neg c90] at H
                     have c90b0 : ((t113.length : Int) == x6_2) = false := beq_eq_false_iff_ne.mpr c90
                     have c90b1 : ((t113.length : Int) != x6_2) = true := bne_iff_ne.mpr c90
                     obtain rfl := Option.some.inj H
                     have hnb98 := NB102_101.out
                     have hnc98 := NB101_102.out
                     have hcz99_0 : wr.cell? ⟨gb102, 0, none⟩ = some (.slice A1_0 l1_0.length c1_0) := (Qab BK102.out 0).trans rfl
                     have hcz99_1 : wr.cell? ⟨gb102, 1, none⟩ = some (.int .i64 a1_1) := (Qab BK102.out 1).trans rfl
                     have hcz99_2 : wr.cell? ⟨gb102, 2, none⟩ = some (.int .i64 a1_2) := (Qab BK102.out 2).trans rfl
                     have hcz99_3 : wr.cell? ⟨gb102, 3, none⟩ = some (.slice A1_3 l1_3.length c1_3) := (Qab BK102.out 3).trans rfl
                     have hcz99_4 : wr.cell? ⟨gb102, 4, none⟩ = some (.int .i64 a1_4) := (Qab BK102.out 4).trans rfl
                     have hfz99_0 := Qad BK102.out 0
                     have hfz99_1 := Qad BK102.out 1
                     have hfz99_2 := Qad BK102.out 2
                     have hfz99_3 := Qad BK102.out 3
                     have hfz99_4 := Qad BK102.out 4
                     have p112 : 0 ≤ (a1_1 : Int) := of_decide_eq_true (by first | (with_reducible assumption) | assumption)
                     have q112 : a1_1 < (l1_0.length : Int) := of_decide_eq_true (by first | (with_reducible assumption) | assumption)
                     obtain ⟨ad112, A112_2, c112_2, A112_3, c112_3, e112, hx112_0, hx112_1, hx112_2, hx112_3, hx112_4, hx112_5, hl112_2, hi112_2, hl112_3, hi112_3⟩ := Qa9 HR1_0.out a1_1 p112 q112
                     (try rw [← Nbq85.out] at hx112_5)
                     (try (have hA_ := A91.out; rw [← Nbq85.out] at hA_; replace A91 := Aside0.mk hA_; clear hA_))
                     (try rw [← Nbq85.out] at hw112_5)
                     cases e112
                     replace hx112_0 := pc_ HB hx112_0
                     replace hx112_1 := pc_ HB hx112_1
                     replace hx112_2 := pc_ HB hx112_2
                     replace hx112_3 := pc_ HB hx112_3
                     replace hx112_4 := pc_ HB hx112_4
                     replace hx112_5 := pc_ HB hx112_5
                     have HR112_2 := Aside0.mk hi112_2
                     have HC112_2 := Aside0.mk hl112_2
                     clear hi112_2 hl112_2
                     have HR112_3 := Aside0.mk hi112_3
                     have HC112_3 := Aside0.mk hl112_3
                     clear hi112_3 hl112_3
                     replace p112 := eq_true p112
                     replace q112 := eq_true q112
                     go_wp2_with (first | (go_at_call 90; (with_reducible refine (Qau.calls k2 _ _ l1_0 a1_1 a1_2 _ _ l1_3 a1_4 t113 _ ?side1 ?side2 ?side3 ?side4 A89.out).mono ?_); (case side1 => exact cb_); (case side2 => exact HC1_0.out); (case side3 => exact cb_); (case side4 => exact HC1_3.out); rintro e w100 ⟨v114, rfl, ho0, hb⟩; have n0_ := Aside0.mk (Kd.R_lower ho0 (QaE (bw_))); have n1_ := Aside0.mk (bb_ BK101 hb); have n2_ := Aside0.mk (bb_ BK102 hb); have n3_ := Aside0.mk (Qac (bw_) hb); clear BK101; clear BK102; clear HB; have HO115 := n0_; have BK101 := n1_; have BK102 := n2_; have HB := n3_; clear n0_ n1_ n2_ n3_; (try clear hb); (try clear hb2); (try clear hk); (try clear hi); (try clear ho0); obtain ⟨Ao101, co101, eo101⟩ := Kd.R_slice HO115.out; subst eo101))
                     go_ret
                     exact ⟨by first | rfl | (simp [Qaf, Qag] <;> rfl) | (simp [*, Qaf, Qag] <;> rfl), bw_⟩
               · rw [if_neg c84] at H
                 exact absurd H (by simp)
             · rw [if_neg c83] at H
               exact absurd H (by simp)
end Go.Proofs.Ytabcijheemjplaa.G
