import Derived.Test.YtabcijheemjplaaK504cd682
import Derived.Test.YtabcijheemjplaaK908b78d3
import Derived.Test.YtabcijheemjplaaK81ea63c1
import Derived.Test.YtabcijheemjplaaK71ac883f
import Derived.Test.YtabcijheemjplaaK60ccce04
namespace Go.Proofs.Ytabcijheemjplaa.G
open Go.RowKit Go.Proofs.YtabcijheemjplaaW.PrintWords Go.Proofs.YtabcijheemjplaaW.PrintLast Go.Proofs.YtabcijheemjplaaW.PrintMore
attribute [local go_sem] Qa3 Qa4 Qbc Qbd QaP QaQ Qa5 Qa6
set_option linter.unusedVariables false
set_option linter.unusedSimpArgs false
def laws_FnExactHeapOk.f (k : Nat) (l0_0 : List (Qa0)) (l1_0 : List (Qba)) (a1_1 : Int) (a1_2 : Int) (l1_3 : List (Qa8)) (a1_4 : Int) : Option (Bool) := (Qbs.f k l0_0 1048576).bind fun t103 => (if t103 < 0 then (some true) else ((Qbr.f k l1_0 a1_1 a1_2 l1_3 a1_4 t103).bind fun t104 => (if t104 < 0 then (some true) else ((QaT.f k l0_0).bind fun t105 => ((QaK.f k l1_0 a1_1 a1_2 l1_3 a1_4).bind fun bt108 => ((Qah.f k t105 bt108.1 bt108.2.1 bt108.2.2.1 bt108.2.2.2.1 bt108.2.2.2.2).bind fun t117 => ((QaT.f k l0_0).bind fun t118 => ((QaK.f k l1_0 a1_1 a1_2 l1_3 a1_4).bind fun bt122 => ((Qak.f k t118 bt122.1 bt122.2.1 bt122.2.2.1 bt122.2.2.2.1 bt122.2.2.2.2).bind fun t132 => (if (t132 != t117) = true then (some false) else ((QaT.f k l0_0).bind fun t133 => ((Qbj.f k t118 t133).bind fun t136 => (if t136 = true then ((QaK.f k l1_0 a1_1 a1_2 l1_3 a1_4).bind fun bt137 => ((Qbf.f k bt122.1 bt122.2.1 bt122.2.2.1 bt122.2.2.2.1 bt122.2.2.2.2 bt137.1 bt137.2.1 bt137.2.2.1 bt137.2.2.2.1 bt137.2.2.2.2).bind fun t146 => (if t146 = true then (some true) else (some false)))) else (some false))))))))))))))
theorem laws_FnExactHeapOk.mono : ∀ a0 a1 a2 a3 a4 a5 k, LeO (laws_FnExactHeapOk.f k a0 a1 a2 a3 a4 a5) (laws_FnExactHeapOk.f (k + 1) a0 a1 a2 a3 a4 a5) := by
 intro a0 a1 a2 a3 a4 a5 k
 unfold laws_FnExactHeapOk.f
 repeat' first
  | (with_reducible exact Qak.mono _ _ _ _ _ _ _)
  | (with_reducible exact Qbf.mono _ _ _ _ _ _ _ _ _ _ _)
  | (with_reducible exact Qbj.mono _ _ _)
  | (with_reducible exact Qbr.mono _ _ _ _ _ _ _)
  | (with_reducible exact Qbs.mono _ _ _)
  | (with_reducible exact QaK.mono _ _ _ _ _ _)
  | (with_reducible exact QaT.mono _ _)
  | (with_reducible exact Qah.mono _ _ _ _ _ _ _)
  | (with_reducible exact LeO.refl _)
  | (with_reducible exact LeO.none _)
  | (with_reducible refine LeO.ite ?_ ?_)
  | (with_reducible refine LeO.bind ?_ (fun _ => ?_))
  | exact Qak.mono _ _ _ _ _ _ _
  | exact Qbf.mono _ _ _ _ _ _ _ _ _ _ _
  | exact Qbj.mono _ _ _
  | exact Qbr.mono _ _ _ _ _ _ _
  | exact Qbs.mono _ _ _
  | exact QaK.mono _ _ _ _ _ _
  | exact QaT.mono _ _
  | exact Qah.mono _ _ _ _ _ _ _
  | exact LeO.none _
  | refine LeO.ite ?_ ?_
  | refine LeO.bind ?_ (fun _ => ?_)
set_option maxHeartbeats 8000000 in
set_option maxRecDepth 100000 in
theorem laws_FnExactHeapOk.calls (k : Nat) (A0_0 : Option Addr) (c0_0 : Nat) (l0_0 : List (Qa0)) (A1_0 : Option Addr) (c1_0 : Nat) (l1_0 : List (Qba)) (a1_1 : Int) (a1_2 : Int) (A1_3 : Option Addr) (c1_3 : Nat) (l1_3 : List (Qa8)) (a1_4 : Int) (r : Bool) (w : World) (hr0_0 : Kd.C QbG w A0_0 l0_0.length l0_0) (hc0_0 : l0_0.length ≤ c0_0) (hr1_0 : Kd.C QbW w A1_0 l1_0.length l1_0) (hc1_0 : l1_0.length ≤ c1_0) (hr1_3 : Kd.C Qbv w A1_3 l1_3.length l1_3) (hc1_3 : l1_3.length ≤ c1_3) (h : laws_FnExactHeapOk.f k l0_0 l1_0 a1_1 a1_2 l1_3 a1_4 = some r) :
 Calls Try.prog 8 #[.agg #[.slice A0_0 l0_0.length c0_0], .agg #[.slice A1_0 l1_0.length c1_0, .int .i64 a1_1, .int .i64 a1_2, .slice A1_3 l1_3.length c1_3, .int .i64 a1_4]] w fun e w' => e = .returned (.bool r) ∧ Below w.heap.size w w' := by
 have hu41 := Try.underlying41
 have hu61 := Try.underlying61
 have hu25 := Try.underlying25
 have hu46 := Try.underlying46
 have HR0_0 := Aside0.mk hr0_0
 have HC0_0 := Aside0.mk hc0_0
 clear hr0_0 hc0_0
 have HR1_0 := Aside0.mk hr1_0
 have HC1_0 := Aside0.mk hc1_0
 clear hr1_0 hc1_0
 have HR1_3 := Aside0.mk hr1_3
 have HC1_3 := Aside0.mk hc1_3
 clear hr1_3 hc1_3
 have HB := Aside0.mk (Below.refl w.heap.size w)
 have H : ((Qbs.f k l0_0 1048576).bind fun t103 => (if t103 < 0 then (some true) else ((Qbr.f k l1_0 a1_1 a1_2 l1_3 a1_4 t103).bind fun t104 => (if t104 < 0 then (some true) else ((QaT.f k l0_0).bind fun t105 => ((QaK.f k l1_0 a1_1 a1_2 l1_3 a1_4).bind fun bt108 => ((Qah.f k t105 bt108.1 bt108.2.1 bt108.2.2.1 bt108.2.2.2.1 bt108.2.2.2.2).bind fun t117 => ((QaT.f k l0_0).bind fun t118 => ((QaK.f k l1_0 a1_1 a1_2 l1_3 a1_4).bind fun bt122 => ((Qak.f k t118 bt122.1 bt122.2.1 bt122.2.2.1 bt122.2.2.2.1 bt122.2.2.2.2).bind fun t132 => (if (t132 != t117) = true then (some false) else ((QaT.f k l0_0).bind fun t133 => ((Qbj.f k t118 t133).bind fun t136 => (if t136 = true then ((QaK.f k l1_0 a1_1 a1_2 l1_3 a1_4).bind fun bt137 => ((Qbf.f k bt122.1 bt122.2.1 bt122.2.2.1 bt122.2.2.2.1 bt122.2.2.2.2 bt137.1 bt137.2.1 bt137.2.2.1 bt137.2.2.2.1 bt137.2.2.2.2).bind fun t146 => (if t146 = true then (some true) else (some false)))) else (some false))))))))))))))) = some r := h
 clear h
 replace H := Option.bind_eq_some_iff.mp H
 obtain ⟨t103, A30, H⟩ := H
 replace H : (if t103 < 0 then (some true) else ((Qbr.f k l1_0 a1_1 a1_2 l1_3 a1_4 t103).bind fun t104 => (if t104 < 0 then (some true) else ((QaT.f k l0_0).bind fun t105 => ((QaK.f k l1_0 a1_1 a1_2 l1_3 a1_4).bind fun bt108 => ((Qah.f k t105 bt108.1 bt108.2.1 bt108.2.2.1 bt108.2.2.2.1 bt108.2.2.2.2).bind fun t117 => ((QaT.f k l0_0).bind fun t118 => ((QaK.f k l1_0 a1_1 a1_2 l1_3 a1_4).bind fun bt122 => ((Qak.f k t118 bt122.1 bt122.2.1 bt122.2.2.1 bt122.2.2.2.1 bt122.2.2.2.2).bind fun t132 => (if (t132 != t117) = true then (some false) else ((QaT.f k l0_0).bind fun t133 => ((Qbj.f k t118 t133).bind fun t136 => (if t136 = true then ((QaK.f k l1_0 a1_1 a1_2 l1_3 a1_4).bind fun bt137 => ((Qbf.f k bt122.1 bt122.2.1 bt122.2.2.1 bt122.2.2.2.1 bt122.2.2.2.2 bt137.1 bt137.2.1 bt137.2.2.1 bt137.2.2.2.1 bt137.2.2.2.2).bind fun t146 => (if t146 = true then (some true) else (some false)))) else (some false)))))))))))))) = some r := H
 have A3 := Aside0.mk A30
 clear A30
 by_cases c4 : t103 < 0
 · rw [if_pos c4] at H
   have c4b0 : decide (t103 < 0) = true := decide_eq_true c4
   clear c4
   obtain rfl := Option.some.inj H
   go_enter Try.func8, Try.ntmps8
   go_wp2_with (first | ((with_reducible refine Qaq (N := 2) rfl ?_); refine Qam ?hg (N := 2) ?hd (cs := #[.slice A0_0 l0_0.length c0_0]) (t := 41) ?hr ?_; (case hd => rfl); (case hg => rfl); (case hr => first | (go_simp; done) | (go_simp; rfl)); intro gb101 hg w5 hbox hb; have n0_ := Aside0.mk (Qac (bw_) hb); have n1_ := Aside0.mk (hbox); have n2_ := Aside0.mk ((gs_ hg bw_ : w.heap.size ≤ gb101)); have n3_ := Aside0.mk ((gs_ hg bw_ : w.heap.size ≤ gb101)); clear HB; have HB := n0_; have BK101 := n1_; have GW101 := n2_; have GE101 := n3_; clear n0_ n1_ n2_ n3_; clear hb hbox hg) | ((with_reducible refine Qaq (N := 3) rfl ?_); refine Qam ?hg (N := 3) ?hd (cs := #[.slice A1_0 l1_0.length c1_0, .int .i64 a1_1, .int .i64 a1_2, .slice A1_3 l1_3.length c1_3, .int .i64 a1_4]) (t := 61) ?hr ?_; (case hd => rfl); (case hg => rfl); (case hr => first | (go_simp; done) | (go_simp; rfl)); intro gb102 hg w6 hbox hb; have n0_ := Aside0.mk (bb_ BK101 hb); have n1_ := Aside0.mk (Qac (bw_) hb); have n2_ := Aside0.mk (hbox); have n3_ := Aside0.mk ((gs_ hg bw_ : w.heap.size ≤ gb102)); have n4_ := Aside0.mk ((gs_ hg bw_ : w.heap.size ≤ gb102)); have n5_ := Aside0.mk ((nl_ hg BK101 : gb101 ≠ gb102)); have n6_ := Aside0.mk ((ng_ hg BK101 : gb102 ≠ gb101)); clear BK101; clear HB; have BK101 := n0_; have HB := n1_; have BK102 := n2_; have GW102 := n3_; have GE102 := n4_; have NB101_102 := n5_; have NB102_101 := n6_; clear n0_ n1_ n2_ n3_ n4_ n5_ n6_; clear hb hbox hg; have hnb7 := NB101_102.out; have hnc7 := NB102_101.out; obtain ⟨hcz8_0, hfz8_0⟩ := QbM BK101.out) | ((with_reducible refine Qal (f := 26) rfl ?_); refine QaU (some 12) rfl rfl Try.func26 (by kernel_rfl) rfl #[.agg #[.slice A0_0 l0_0.length c0_0], .int .i64 1048576] rfl (by (try simp only [List.map_toArray, List.map_cons, List.map_nil]); first | done | rfl | (simp only [List.length_drop, List.length_take]; rfl)) ?_; (with_reducible refine (Qbs.calls k _ _ l0_0 1048576 t103 _ ?side1 ?side2 A3.out).mono ?_); (case side1 => exact cb_); (case side2 => exact HC0_0.out); rintro e w9 ⟨rfl, hb⟩; refine ⟨_, rfl, ?_⟩; have n0_ := Aside0.mk (bb_ BK101 hb); have n1_ := Aside0.mk (bb_ BK102 hb); have n2_ := Aside0.mk (Qac (bw_) hb); clear BK101; clear BK102; clear HB; have BK101 := n0_; have BK102 := n1_; have HB := n2_; clear n0_ n1_ n2_; (try clear hb); (try clear hb2); (try clear hk); (try clear hi)))
   go_ret
   exact ⟨by first | rfl | (simp [Qaf, Qag] <;> rfl) | (simp [*, Qaf, Qag] <;> rfl), bw_⟩
 · rw [if_neg c4] at H
   have c4b0 : decide (t103 < 0) = false := decide_eq_false c4
   clear c4
   replace H := Option.bind_eq_some_iff.mp H
   obtain ⟨t104, A100, H⟩ := H
   replace H : (if t104 < 0 then (some true) else ((QaT.f k l0_0).bind fun t105 => ((QaK.f k l1_0 a1_1 a1_2 l1_3 a1_4).bind fun bt108 => ((Qah.f k t105 bt108.1 bt108.2.1 bt108.2.2.1 bt108.2.2.2.1 bt108.2.2.2.2).bind fun t117 => ((QaT.f k l0_0).bind fun t118 => ((QaK.f k l1_0 a1_1 a1_2 l1_3 a1_4).bind fun bt122 => ((Qak.f k t118 bt122.1 bt122.2.1 bt122.2.2.1 bt122.2.2.2.1 bt122.2.2.2.2).bind fun t132 => (if (t132 != t117) = true then (some false) else ((QaT.f k l0_0).bind fun t133 => ((Qbj.f k t118 t133).bind fun t136 => (if t136 = true then ((QaK.f k l1_0 a1_1 a1_2 l1_3 a1_4).bind fun bt137 => ((Qbf.f k bt122.1 bt122.2.1 bt122.2.2.1 bt122.2.2.2.1 bt122.2.2.2.2 bt137.1 bt137.2.1 bt137.2.2.1 bt137.2.2.2.1 bt137.2.2.2.2).bind fun t146 => (if t146 = true then (some true) else (some false)))) else (some false)))))))))))) = some r := H
   have A10 := Aside0.mk A100
   clear A100
   by_cases c11 : t104 < 0
   · rw [if_pos c11] at H
     have c11b0 : decide (t104 < 0) = true := decide_eq_true c11
     clear c11
     obtain rfl := Option.some.inj H
     go_enter Try.func8, Try.ntmps8
     go_wp2_with (first | ((with_reducible refine Qaq (N := 2) rfl ?_); refine Qam ?hg (N := 2) ?hd (cs := #[.slice A0_0 l0_0.length c0_0]) (t := 41) ?hr ?_; (case hd => rfl); (case hg => rfl); (case hr => first | (go_simp; done) | (go_simp; rfl)); intro gb101 hg w12 hbox hb; have n0_ := Aside0.mk (Qac (bw_) hb); have n1_ := Aside0.mk (hbox); have n2_ := Aside0.mk ((gs_ hg bw_ : w.heap.size ≤ gb101)); have n3_ := Aside0.mk ((gs_ hg bw_ : w.heap.size ≤ gb101)); clear HB; have HB := n0_; have BK101 := n1_; have GW101 := n2_; have GE101 := n3_; clear n0_ n1_ n2_ n3_; clear hb hbox hg) | ((with_reducible refine Qaq (N := 3) rfl ?_); refine Qam ?hg (N := 3) ?hd (cs := #[.slice A1_0 l1_0.length c1_0, .int .i64 a1_1, .int .i64 a1_2, .slice A1_3 l1_3.length c1_3, .int .i64 a1_4]) (t := 61) ?hr ?_; (case hd => rfl); (case hg => rfl); (case hr => first | (go_simp; done) | (go_simp; rfl)); intro gb102 hg w13 hbox hb; have n0_ := Aside0.mk (bb_ BK101 hb); have n1_ := Aside0.mk (Qac (bw_) hb); have n2_ := Aside0.mk (hbox); have n3_ := Aside0.mk ((gs_ hg bw_ : w.heap.size ≤ gb102)); have n4_ := Aside0.mk ((gs_ hg bw_ : w.heap.size ≤ gb102)); have n5_ := Aside0.mk ((nl_ hg BK101 : gb101 ≠ gb102)); have n6_ := Aside0.mk ((ng_ hg BK101 : gb102 ≠ gb101)); clear BK101; clear HB; have BK101 := n0_; have HB := n1_; have BK102 := n2_; have GW102 := n3_; have GE102 := n4_; have NB101_102 := n5_; have NB102_101 := n6_; clear n0_ n1_ n2_ n3_ n4_ n5_ n6_; clear hb hbox hg; have hnb14 := NB101_102.out; have hnc14 := NB102_101.out; obtain ⟨hcz15_0, hfz15_0⟩ := QbM BK101.out) | ((with_reducible refine Qal (f := 26) rfl ?_); refine QaU (some 12) rfl rfl Try.func26 (by kernel_rfl) rfl #[.agg #[.slice A0_0 l0_0.length c0_0], .int .i64 1048576] rfl (by (try simp only [List.map_toArray, List.map_cons, List.map_nil]); first | done | rfl | (simp only [List.length_drop, List.length_take]; rfl)) ?_; (with_reducible refine (Qbs.calls k _ _ l0_0 1048576 t103 _ ?side1 ?side2 A3.out).mono ?_); (case side1 => exact cb_); (case side2 => exact HC0_0.out); rintro e w16 ⟨rfl, hb⟩; refine ⟨_, rfl, ?_⟩; have n0_ := Aside0.mk (bb_ BK101 hb); have n1_ := Aside0.mk (bb_ BK102 hb); have n2_ := Aside0.mk (Qac (bw_) hb); clear BK101; clear BK102; clear HB; have BK101 := n0_; have BK102 := n1_; have HB := n2_; clear n0_ n1_ n2_; (try clear hb); (try clear hb2); (try clear hk); (try clear hi); obtain ⟨hcz17_0, hcz17_1, hcz17_2, hcz17_3, hcz17_4, hfz17_0, hfz17_1, hfz17_2, hfz17_3, hfz17_4⟩ := Qbe BK102.out) | ((with_reducible refine Qal (f := 41) rfl ?_); refine QaU (some 17) rfl rfl Try.func41 (by kernel_rfl) rfl #[.agg #[.slice A1_0 l1_0.length c1_0, .int .i64 a1_1, .int .i64 a1_2, .slice A1_3 l1_3.length c1_3, .int .i64 a1_4], .int .i64 t103] rfl (by (try simp only [List.map_toArray, List.map_cons, List.map_nil]); first | done | rfl | (simp only [List.length_drop, List.length_take]; rfl)) ?_; (with_reducible refine (Qbr.calls k _ _ l1_0 a1_1 a1_2 _ _ l1_3 a1_4 t103 t104 _ ?side1 ?side2 ?side3 ?side4 A10.out).mono ?_); (case side1 => exact cb_); (case side2 => exact HC1_0.out); (case side3 => exact cb_); (case side4 => exact HC1_3.out); rintro e w18 ⟨rfl, hb⟩; refine ⟨_, rfl, ?_⟩; have n0_ := Aside0.mk (bb_ BK101 hb); have n1_ := Aside0.mk (bb_ BK102 hb); have n2_ := Aside0.mk (Qac (bw_) hb); clear BK101; clear BK102; clear HB; have BK101 := n0_; have BK102 := n1_; have HB := n2_; clear n0_ n1_ n2_; (try clear hb); (try clear hb2); (try clear hk); (try clear hi)))
     go_ret
     exact ⟨by first | rfl | (simp [Qaf, Qag] <;> rfl) | (simp [*, Qaf, Qag] <;> rfl), bw_⟩
   · rw [if_neg c11] at H
     have c11b0 : decide (t104 < 0) = false := decide_eq_false c11
     clear c11
     replace H := Option.bind_eq_some_iff.mp H
     obtain ⟨t105, A190, H⟩ := H
     replace H : ((QaK.f k l1_0 a1_1 a1_2 l1_3 a1_4).bind fun bt108 => ((Qah.f k t105 bt108.1 bt108.2.1 bt108.2.2.1 bt108.2.2.2.1 bt108.2.2.2.2).bind fun t117 => ((QaT.f k l0_0).bind fun t118 => ((QaK.f k l1_0 a1_1 a1_2 l1_3 a1_4).bind fun bt122 => ((Qak.f k t118 bt122.1 bt122.2.1 bt122.2.2.1 bt122.2.2.2.1 bt122.2.2.2.2).bind fun t132 => (if (t132 != t117) = true then (some false) else ((QaT.f k l0_0).bind fun t133 => ((Qbj.f k t118 t133).bind fun t136 => (if t136 = true then ((QaK.f k l1_0 a1_1 a1_2 l1_3 a1_4).bind fun bt137 => ((Qbf.f k bt122.1 bt122.2.1 bt122.2.2.1 bt122.2.2.2.1 bt122.2.2.2.2 bt137.1 bt137.2.1 bt137.2.2.1 bt137.2.2.2.1 bt137.2.2.2.2).bind fun t146 => (if t146 = true then (some true) else (some false)))) else (some false)))))))))) = some r := H
     have A19 := Aside0.mk A190
     clear A190
     replace H := Option.bind_eq_some_iff.mp H
     obtain ⟨⟨t108, t111, t112, t113, t116⟩, A200, H⟩ := H
     replace H : ((Qah.f k t105 t108 t111 t112 t113 t116).bind fun t117 => ((QaT.f k l0_0).bind fun t118 => ((QaK.f k l1_0 a1_1 a1_2 l1_3 a1_4).bind fun bt122 => ((Qak.f k t118 bt122.1 bt122.2.1 bt122.2.2.1 bt122.2.2.2.1 bt122.2.2.2.2).bind fun t132 => (if (t132 != t117) = true then (some false) else ((QaT.f k l0_0).bind fun t133 => ((Qbj.f k t118 t133).bind fun t136 => (if t136 = true then ((QaK.f k l1_0 a1_1 a1_2 l1_3 a1_4).bind fun bt137 => ((Qbf.f k bt122.1 bt122.2.1 bt122.2.2.1 bt122.2.2.2.1 bt122.2.2.2.2 bt137.1 bt137.2.1 bt137.2.2.1 bt137.2.2.2.1 bt137.2.2.2.2).bind fun t146 => (if t146 = true then (some true) else (some false)))) else (some false))))))))) = some r := H
     have A20 := Aside0.mk A200
     clear A200
     replace H := Option.bind_eq_some_iff.mp H
     obtain ⟨t117, A210, H⟩ := H
     replace H : ((QaT.f k l0_0).bind fun t118 => ((QaK.f k l1_0 a1_1 a1_2 l1_3 a1_4).bind fun bt122 => ((Qak.f k t118 bt122.1 bt122.2.1 bt122.2.2.1 bt122.2.2.2.1 bt122.2.2.2.2).bind fun t132 => (if (t132 != t117) = true then (some false) else ((QaT.f k l0_0).bind fun t133 => ((Qbj.f k t118 t133).bind fun t136 => (if t136 = true then ((QaK.f k l1_0 a1_1 a1_2 l1_3 a1_4).bind fun bt137 => ((Qbf.f k bt122.1 bt122.2.1 bt122.2.2.1 bt122.2.2.2.1 bt122.2.2.2.2 bt137.1 bt137.2.1 bt137.2.2.1 bt137.2.2.2.1 bt137.2.2.2.2).bind fun t146 => (if t146 = true then (some true) else (some false)))) else (some false)))))))) = some r := H
     have A21 := Aside0.mk A210
     clear A210
     replace H := Option.bind_eq_some_iff.mp H
     obtain ⟨t118, A220, H⟩ := H
     replace H : ((QaK.f k l1_0 a1_1 a1_2 l1_3 a1_4).bind fun bt122 => ((Qak.f k t118 bt122.1 bt122.2.1 bt122.2.2.1 bt122.2.2.2.1 bt122.2.2.2.2).bind fun t132 => (if (t132 != t117) = true then (some false) else ((QaT.f k l0_0).bind fun t133 => ((Qbj.f k t118 t133).bind fun t136 => (if t136 = true then ((QaK.f k l1_0 a1_1 a1_2 l1_3 a1_4).bind fun bt137 => ((Qbf.f k bt122.1 bt122.2.1 bt122.2.2.1 bt122.2.2.2.1 bt122.2.2.2.2 bt137.1 bt137.2.1 bt137.2.2.1 bt137.2.2.2.1 bt137.2.2.2.2).bind fun t146 => (if t146 = true then (some true) else (some false)))) else (some false))))))) = some r := H
     have A22 := Aside0.mk A220
     clear A220
     replace H := Option.bind_eq_some_iff.mp H
     obtain ⟨⟨t122, t125, t126, t127, t130⟩, A230, H⟩ := H
     replace H : ((Qak.f k t118 t122 t125 t126 t127 t130).bind fun t132 => (if (t132 != t117) = true then (some false) else ((QaT.f k l0_0).bind fun t133 => ((Qbj.f k t118 t133).bind fun t136 => (if t136 = true then ((QaK.f k l1_0 a1_1 a1_2 l1_3 a1_4).bind fun bt137 => ((Qbf.f k t122 t125 t126 t127 t130 bt137.1 bt137.2.1 bt137.2.2.1 bt137.2.2.2.1 bt137.2.2.2.2).bind fun t146 => (if t146 = true then (some true) else (some false)))) else (some false)))))) = some r := H
     have A23 := Aside0.mk A230
     clear A230
     replace H := Option.bind_eq_some_iff.mp H
     obtain ⟨t132, A240, H⟩ := H
     replace H : (if (t132 != t117) = true then (some false) else ((QaT.f k l0_0).bind fun t133 => ((Qbj.f k t118 t133).bind fun t136 => (if t136 = true then ((QaK.f k l1_0 a1_1 a1_2 l1_3 a1_4).bind fun bt137 => ((Qbf.f k t122 t125 t126 t127 t130 bt137.1 bt137.2.1 bt137.2.2.1 bt137.2.2.2.1 bt137.2.2.2.2).bind fun t146 => (if t146 = true then (some true) else (some false)))) else (some false))))) = some r := H
     have A24 := Aside0.mk A240
     clear A240
     by_cases c25 : (t132 != t117) = true
     · rw [if_pos c25] at H
       have c25b0 : (t132 != t117) = true := c25
       (try (have c25b1 : decide (t132 = t117) = false := by simpa using c25))
       (try (have c25b2 : (t132 == t117) = false := by simpa using c25))
       (try (have c25b3 : ¬ (t132 = t117) := by simpa using c25))
       clear c25
       obtain rfl := Option.some.inj H
       go_enter Try.func8, Try.ntmps8
       try go_wp2_with (first | ((with_reducible refine Qaq (N := 2) rfl ?_); refine Qam ?hg (N := 2) ?hd (cs := #[.slice A0_0 l0_0.length c0_0]) (t := 41) ?hr ?_; (case hd => rfl); (case hg => rfl); (case hr => first | (go_simp; done) | (go_simp; rfl)); intro gb101 hg w26 hbox hb; have n0_ := Aside0.mk (Qac (bw_) hb); have n1_ := Aside0.mk (hbox); have n2_ := Aside0.mk ((gs_ hg bw_ : w.heap.size ≤ gb101)); have n3_ := Aside0.mk ((gs_ hg bw_ : w.heap.size ≤ gb101)); clear HB; have HB := n0_; have BK101 := n1_; have GW101 := n2_; have GE101 := n3_; clear n0_ n1_ n2_ n3_; clear hb hbox hg) | ((with_reducible refine Qaq (N := 3) rfl ?_); refine Qam ?hg (N := 3) ?hd (cs := #[.slice A1_0 l1_0.length c1_0, .int .i64 a1_1, .int .i64 a1_2, .slice A1_3 l1_3.length c1_3, .int .i64 a1_4]) (t := 61) ?hr ?_; (case hd => rfl); (case hg => rfl); (case hr => first | (go_simp; done) | (go_simp; rfl)); intro gb102 hg w27 hbox hb; have n0_ := Aside0.mk (bb_ BK101 hb); have n1_ := Aside0.mk (Qac (bw_) hb); have n2_ := Aside0.mk (hbox); have n3_ := Aside0.mk ((gs_ hg bw_ : w.heap.size ≤ gb102)); have n4_ := Aside0.mk ((gs_ hg bw_ : w.heap.size ≤ gb102)); have n5_ := Aside0.mk ((nl_ hg BK101 : gb101 ≠ gb102)); have n6_ := Aside0.mk ((ng_ hg BK101 : gb102 ≠ gb101)); clear BK101; clear HB; have BK101 := n0_; have HB := n1_; have BK102 := n2_; have GW102 := n3_; have GE102 := n4_; have NB101_102 := n5_; have NB102_101 := n6_; clear n0_ n1_ n2_ n3_ n4_ n5_ n6_; clear hb hbox hg; have hnb28 := NB101_102.out; have hnc28 := NB102_101.out; obtain ⟨hcz29_0, hfz29_0⟩ := QbM BK101.out) | ((with_reducible refine Qal (f := 26) rfl ?_); refine QaU (some 12) rfl rfl Try.func26 (by kernel_rfl) rfl #[.agg #[.slice A0_0 l0_0.length c0_0], .int .i64 1048576] rfl (by (try simp only [List.map_toArray, List.map_cons, List.map_nil]); first | done | rfl | (simp only [List.length_drop, List.length_take]; rfl)) ?_; (with_reducible refine (Qbs.calls k _ _ l0_0 1048576 t103 _ ?side1 ?side2 A3.out).mono ?_); (case side1 => exact cb_); (case side2 => exact HC0_0.out); rintro e w30 ⟨rfl, hb⟩; refine ⟨_, rfl, ?_⟩; have n0_ := Aside0.mk (bb_ BK101 hb); have n1_ := Aside0.mk (bb_ BK102 hb); have n2_ := Aside0.mk (Qac (bw_) hb); clear BK101; clear BK102; clear HB; have BK101 := n0_; have BK102 := n1_; have HB := n2_; clear n0_ n1_ n2_; (try clear hb); (try clear hb2); (try clear hk); (try clear hi); obtain ⟨hcz31_0, hcz31_1, hcz31_2, hcz31_3, hcz31_4, hfz31_0, hfz31_1, hfz31_2, hfz31_3, hfz31_4⟩ := Qbe BK102.out) | ((with_reducible refine Qal (f := 41) rfl ?_); refine QaU (some 17) rfl rfl Try.func41 (by kernel_rfl) rfl #[.agg #[.slice A1_0 l1_0.length c1_0, .int .i64 a1_1, .int .i64 a1_2, .slice A1_3 l1_3.length c1_3, .int .i64 a1_4], .int .i64 t103] rfl (by (try simp only [List.map_toArray, List.map_cons, List.map_nil]); first | done | rfl | (simp only [List.length_drop, List.length_take]; rfl)) ?_; (with_reducible refine (Qbr.calls k _ _ l1_0 a1_1 a1_2 _ _ l1_3 a1_4 t103 t104 _ ?side1 ?side2 ?side3 ?side4 A10.out).mono ?_); (case side1 => exact cb_); (case side2 => exact HC1_0.out); (case side3 => exact cb_); (case side4 => exact HC1_3.out); rintro e w32 ⟨rfl, hb⟩; refine ⟨_, rfl, ?_⟩; have n0_ := Aside0.mk (bb_ BK101 hb); have n1_ := Aside0.mk (bb_ BK102 hb); have n2_ := Aside0.mk (Qac (bw_) hb); clear BK101; clear BK102; clear HB; have BK101 := n0_; have BK102 := n1_; have HB := n2_; clear n0_ n1_ n2_; (try clear hb); (try clear hb2); (try clear hk); (try clear hi)))
       have n0_ := Aside0.mk (Qa2 BK101.out)
       have n1_ := Aside0.mk (Qa2 BK102.out)
       have n2_ := Aside0.mk (Qa7 HB.out)
       clear BK101
       clear BK102
       clear HB
       have BK101 := n0_
       have BK102 := n1_
       have HB := n2_
       clear n0_ n1_ n2_
       refine QbP (n := 6) (S := fun w' => w'.cell? ⟨gb101, 0, none⟩ = some (.slice A0_0 l0_0.length c0_0) ∧ w'.cell? ⟨gb102, 0, none⟩ = some (.slice A1_0 l1_0.length c1_0) ∧ w'.cell? ⟨gb102, 1, none⟩ = some (.int .i64 a1_1) ∧ w'.cell? ⟨gb102, 2, none⟩ = some (.int .i64 a1_2) ∧ w'.cell? ⟨gb102, 3, none⟩ = some (.slice A1_3 l1_3.length c1_3) ∧ w'.cell? ⟨gb102, 4, none⟩ = some (.int .i64 a1_4)) (ds := []) #[false, false, false, false, false, false] (by kernel_rfl) rfl rfl ⟨(Qab BK101.out 0).trans rfl, (Qab BK102.out 0).trans rfl, (Qab BK102.out 1).trans rfl, (Qab BK102.out 2).trans rfl, (Qab BK102.out 3).trans rfl, (Qab BK102.out 4).trans rfl⟩ (fun hHeld => ?_)
       generalize w32.drew = w33 at BK101 BK102 HB hHeld ⊢
       refine tk_ 0 (some 20) #[true, false, false, false, false, false] rfl rfl hHeld ?_
       refine tk_ 2 (some 22) #[true, false, true, false, false, false] rfl rfl hHeld ?_
       refine Qcx (i := 1) (N := some 21) #[true, true, true, false, false, false] rfl rfl (by kernel_rfl) (by decide) (fun K hK => ?_)
       refine QbL Try.func28 (by kernel_rfl) rfl #[.agg #[.slice A0_0 l0_0.length c0_0]] (by rfl) rfl rfl (by (try simp only [List.map_toArray, List.map_cons, List.map_nil]); first | done | rfl | (simp only [List.length_drop, List.length_take]; rfl)) ?_
       with_reducible refine (QaT.calls k _ _ l0_0 t105 _ ?side1 ?side2 A19.out).mono ?_
       (case side1 => exact cb_)
       (case side2 => exact HC0_0.out)
       rintro e w34 ⟨v106, rfl, ho0, hb⟩
       refine ⟨_, rfl, ?_⟩
       have n0_ := Aside0.mk (Kd.S_lower ho0 (QaE (bw_)))
       have n1_ := Aside0.mk (bb_ BK101 hb)
       have n2_ := Aside0.mk (bb_ BK102 hb)
       have n3_ := Aside0.mk (Qac (bw_) hb)
       clear BK101
       clear BK102
       clear HB
       have HO107 := n0_
       have BK101 := n1_
       have BK102 := n2_
       have HB := n3_
       clear n0_ n1_ n2_ n3_
       (try clear hb)
       (try clear hb2)
       (try clear hk)
       (try clear hi)
       (try clear ho0)
       refine hK.out _ _ ⟨(Qab BK101.out 0).trans rfl, (Qab BK102.out 0).trans rfl, (Qab BK102.out 1).trans rfl, (Qab BK102.out 2).trans rfl, (Qab BK102.out 3).trans rfl, (Qab BK102.out 4).trans rfl⟩ (fun hHeld => ?_)
       clear hK K
       refine QbK (a' := ?_) ?_ ?_
       rotate_left
       · show Act.put _ (some 21) _ = _
         simp only [Act.put, List.setIfInBounds_toArray, List.set_cons_zero, List.set_cons_succ, QbA, QbB]
         rfl
       refine Qcx (i := 3) (N := some 23) #[true, true, true, true, false, false] rfl rfl (by kernel_rfl) (by decide) (fun K hK => ?_)
       refine QbL Try.func43 (by kernel_rfl) rfl #[.agg #[.slice A1_0 l1_0.length c1_0, .int .i64 a1_1, .int .i64 a1_2, .slice A1_3 l1_3.length c1_3, .int .i64 a1_4]] (by rfl) rfl rfl (by (try simp only [List.map_toArray, List.map_cons, List.map_nil]); first | done | rfl | (simp only [List.length_drop, List.length_take]; rfl)) ?_
       with_reducible refine (QaK.calls k _ _ l1_0 a1_1 a1_2 _ _ l1_3 a1_4 t108 t111 t112 t113 t116 _ ?side1 ?side2 ?side3 ?side4 A20.out).mono ?_
       (case side1 => exact cb_)
       (case side2 => exact HC1_0.out)
       (case side3 => exact cb_)
       (case side4 => exact HC1_3.out)
       rintro e w35 ⟨v109, v114, rfl, ho0, ho1, hb⟩
       refine ⟨_, rfl, ?_⟩
       have n0_ := Aside0.mk (Kd.S_below (by (refine Qbo ?_); exact HO107.out) hb)
       have n1_ := Aside0.mk (Kd.S_lower ho0 (QaE (bw_)))
       have n2_ := Aside0.mk (Kd.R_lower ho1 (QaE (bw_)))
       have n3_ := Aside0.mk (bb_ BK101 hb)
       have n4_ := Aside0.mk (bb_ BK102 hb)
       have n5_ := Aside0.mk (Qac (bw_) hb)
       clear HO107
       clear BK101
       clear BK102
       clear HB
       have HO107 := n0_
       have HO110 := n1_
       have HO115 := n2_
       have BK101 := n3_
       have BK102 := n4_
       have HB := n5_
       clear n0_ n1_ n2_ n3_ n4_ n5_
       (try clear hb)
       (try clear hb2)
       (try clear hk)
       (try clear hi)
       (try clear ho0)
       (try clear ho1)
       obtain ⟨Ao36, co36, eo36⟩ := Kd.S_slice HO107.out
       (first | subst eo36 | (injection eo36 with f1_ f2_ f3_; have f4_ := f1_.symm; have f5_ := f3_.symm; clear f1_ f2_ f3_; subst f4_; subst f5_))
       obtain ⟨Ao37, co37, eo37⟩ := Kd.S_slice HO110.out
       (first | subst eo37 | (injection eo37 with f1_ f2_ f3_; have f4_ := f1_.symm; have f5_ := f3_.symm; clear f1_ f2_ f3_; subst f4_; subst f5_))
       obtain ⟨Ao38, co38, eo38⟩ := Kd.R_slice HO115.out
       (first | subst eo38 | (injection eo38 with f1_ f2_ f3_; have f4_ := f1_.symm; have f5_ := f3_.symm; clear f1_ f2_ f3_; subst f4_; subst f5_))
       refine hK.out _ _ ⟨(Qab BK101.out 0).trans rfl, (Qab BK102.out 0).trans rfl, (Qab BK102.out 1).trans rfl, (Qab BK102.out 2).trans rfl, (Qab BK102.out 3).trans rfl, (Qab BK102.out 4).trans rfl⟩ (fun hHeld => ?_)
       clear hK K
       refine QbK (a' := ?_) ?_ ?_
       rotate_left
       · show Act.put _ (some 23) _ = _
         simp only [Act.put, List.setIfInBounds_toArray, List.set_cons_zero, List.set_cons_succ, QbA, QbB]
         rfl
       refine Qcx (i := 4) (N := some 24) #[true, true, true, true, true, false] rfl rfl (by kernel_rfl) (by decide) (fun K hK => ?_)
       refine QbL Try.func42 (by kernel_rfl) rfl #[.agg #[.slice Ao36 t105.length co36], .agg #[.slice Ao37 t108.length co37, .int .i64 t111, .int .i64 t112, .slice Ao38 t113.length co38, .int .i64 t116]] (by rfl) rfl rfl (by (try simp only [List.map_toArray, List.map_cons, List.map_nil]); first | done | rfl | (simp only [List.length_drop, List.length_take]; rfl)) ?_
       with_reducible refine (Qah.calls k _ _ t105 _ _ t108 t111 t112 _ _ t113 t116 t117 _ ?side1 ?side2 ?side3 ?side4 ?side5 ?side6 A21.out).mono ?_
       (case side1 => repeat (first | exact (Kd.S_reads' HO107.out).2.2 | (with_reducible refine Kd.C_alloc ?_ _) | (with_reducible refine Kd.C_drewN ?_ _) | (with_reducible refine Kd.C_drew ?_)))
       (case side2 => exact (Kd.S_reads' HO107.out).2.1)
       (case side3 => repeat (first | exact (Kd.S_reads' HO110.out).2.2 | (with_reducible refine Kd.C_alloc ?_ _) | (with_reducible refine Kd.C_drewN ?_ _) | (with_reducible refine Kd.C_drew ?_)))
       (case side4 => exact (Kd.S_reads' HO110.out).2.1)
       (case side5 => repeat (first | exact (Kd.R_reads' HO115.out).2.2 | (with_reducible refine Kd.C_alloc ?_ _) | (with_reducible refine Kd.C_drewN ?_ _) | (with_reducible refine Kd.C_drew ?_)))
       (case side6 => exact (Kd.R_reads' HO115.out).2.1)
       rintro e w39 ⟨rfl, hb⟩
       refine ⟨_, rfl, ?_⟩
       have n0_ := Aside0.mk (Kd.S_below (by (refine Qbo ?_); exact HO107.out) hb)
       have n1_ := Aside0.mk (Kd.S_below (by (refine Qbo ?_); exact HO110.out) hb)
       have n2_ := Aside0.mk (Kd.R_below (by (refine QbI ?_); exact HO115.out) hb)
       have n3_ := Aside0.mk (bb_ BK101 hb)
       have n4_ := Aside0.mk (bb_ BK102 hb)
       have n5_ := Aside0.mk (Qac (bw_) hb)
       clear HO107
       clear HO110
       clear HO115
       clear BK101
       clear BK102
       clear HB
       have HO107 := n0_
       have HO110 := n1_
       have HO115 := n2_
       have BK101 := n3_
       have BK102 := n4_
       have HB := n5_
       clear n0_ n1_ n2_ n3_ n4_ n5_
       (try clear hb)
       (try clear hb2)
       (try clear hk)
       (try clear hi)
       refine hK.out _ _ ⟨(Qab BK101.out 0).trans rfl, (Qab BK102.out 0).trans rfl, (Qab BK102.out 1).trans rfl, (Qab BK102.out 2).trans rfl, (Qab BK102.out 3).trans rfl, (Qab BK102.out 4).trans rfl⟩ (fun hHeld => ?_)
       clear hK K
       refine QbK (a' := ?_) ?_ ?_
       rotate_left
       · show Act.put _ (some 24) _ = _
         simp only [Act.put, List.setIfInBounds_toArray, List.set_cons_zero, List.set_cons_succ, QbA, QbB]
         rfl
       refine pu_ 5 (some 6) #[true, true, true, true, true, true] rfl rfl ?_
       refine Qcc (by kernel_rfl) ?_
       have hcz40_0 : w39.cell? ⟨gb101, 0, none⟩ = some (.slice A0_0 l0_0.length c0_0) := (Qab BK101.out 0).trans rfl
       have hfz40_0 := Qad BK101.out 0
       try go_wp2_with (first | ((with_reducible refine Qal (f := 28) rfl ?_); refine QaU (some 26) rfl rfl Try.func28 (by kernel_rfl) rfl #[.agg #[.slice A0_0 l0_0.length c0_0]] rfl (by (try simp only [List.map_toArray, List.map_cons, List.map_nil]); first | done | rfl | (simp only [List.length_drop, List.length_take]; rfl)) ?_; (with_reducible refine (QaT.calls k _ _ l0_0 t118 _ ?side1 ?side2 A22.out).mono ?_); (case side1 => exact cb_); (case side2 => exact HC0_0.out); rintro e w41 ⟨v119, rfl, ho0, hb⟩; refine ⟨_, rfl, ?_⟩; have n0_ := Aside0.mk (Kd.S_elder' (by (refine Qbo ?_); exact HO107.out) (Kd.S_base ho0) hb); have n1_ := Aside0.mk (Kd.S_below (by (refine Qbo ?_); exact HO110.out) hb); have n2_ := Aside0.mk (Kd.R_below (by (refine QbI ?_); exact HO115.out) hb); have n3_ := Aside0.mk (Kd.S_lower (Kd.S_new' ho0 (Kd.S_lt (by (refine Qbo ?_); exact HO107.out))) (QaE (bw_))); have n4_ := Aside0.mk (bb_ BK101 hb); have n5_ := Aside0.mk (bb_ BK102 hb); have n6_ := Aside0.mk (Qac (bw_) hb); clear HO107; clear HO110; clear HO115; clear BK101; clear BK102; clear HB; have HO107 := n0_; have HO110 := n1_; have HO115 := n2_; have HO120 := n3_; have BK101 := n4_; have BK102 := n5_; have HB := n6_; clear n0_ n1_ n2_ n3_ n4_ n5_ n6_; (try clear hb); (try clear hb2); (try clear hk); (try clear hi); (try clear ho0)) | ((with_reducible refine Qaq (N := 7) rfl ?_); refine Qam ?hg (N := 7) ?hd (cs := #[.slice none 0 0]) (t := 25) ?hr ?_; (case hd => rfl); (case hg => rfl); (case hr => first | (go_simp; done) | (go_simp; rfl)); intro gb121 hg w42 hbox hb; have n0_ := Aside0.mk (Kd.S_below (by (refine Qbo ?_); exact HO107.out) hb); have n1_ := Aside0.mk (Kd.S_below (by (refine Qbo ?_); exact HO110.out) hb); have n2_ := Aside0.mk (Kd.R_below (by (refine QbI ?_); exact HO115.out) hb); have n3_ := Aside0.mk (Kd.S_below (by (refine Qbo ?_); exact HO120.out) hb); have n4_ := Aside0.mk (bb_ BK101 hb); have n5_ := Aside0.mk (bb_ BK102 hb); have n6_ := Aside0.mk (Qac (bw_) hb); have n7_ := Aside0.mk (hbox); have n8_ := Aside0.mk ((gs_ hg bw_ : w.heap.size ≤ gb121)); have n9_ := Aside0.mk ((gs_ hg bw_ : w.heap.size ≤ gb121)); have n10_ := Aside0.mk ((nl_ hg BK101 : gb101 ≠ gb121)); have n11_ := Aside0.mk ((ng_ hg BK101 : gb121 ≠ gb101)); have n12_ := Aside0.mk ((nl_ hg BK102 : gb102 ≠ gb121)); have n13_ := Aside0.mk ((ng_ hg BK102 : gb121 ≠ gb102)); clear HO107; clear HO110; clear HO115; clear HO120; clear BK101; clear BK102; clear HB; have HO107 := n0_; have HO110 := n1_; have HO115 := n2_; have HO120 := n3_; have BK101 := n4_; have BK102 := n5_; have HB := n6_; have BK121 := n7_; have GW121 := n8_; have GE121 := n9_; have NB101_121 := n10_; have NB121_101 := n11_; have NB102_121 := n12_; have NB121_102 := n13_; clear n0_ n1_ n2_ n3_ n4_ n5_ n6_ n7_ n8_ n9_ n10_ n11_ n12_ n13_; clear hb hbox hg; obtain ⟨Ao43, co43, eo43⟩ := Kd.S_slice HO120.out; subst eo43; have hnb44 := NB121_101.out; have hnc44 := NB101_121.out; have hnb45 := NB121_102.out; have hnc45 := NB102_121.out; obtain ⟨hcz46_0, hfz46_0⟩ := QbM BK121.out; obtain ⟨hcz47_0, hcz47_1, hcz47_2, hcz47_3, hcz47_4, hfz47_0, hfz47_1, hfz47_2, hfz47_3, hfz47_4⟩ := Qbe BK102.out) | ((with_reducible refine Qal (f := 43) rfl ?_); refine QaU (some 28) rfl rfl Try.func43 (by kernel_rfl) rfl #[.agg #[.slice A1_0 l1_0.length c1_0, .int .i64 a1_1, .int .i64 a1_2, .slice A1_3 l1_3.length c1_3, .int .i64 a1_4]] rfl (by (try simp only [List.map_toArray, List.map_cons, List.map_nil]); first | done | rfl | (simp only [List.length_drop, List.length_take]; rfl)) ?_; (with_reducible refine (QaK.calls k _ _ l1_0 a1_1 a1_2 _ _ l1_3 a1_4 t122 t125 t126 t127 t130 _ ?side1 ?side2 ?side3 ?side4 A23.out).mono ?_); (case side1 => exact Kd.C_below HR1_0.out (bw_)); (case side2 => exact HC1_0.out); (case side3 => exact Kd.C_below HR1_3.out (bw_)); (case side4 => exact HC1_3.out); rintro e w48 ⟨v123, v128, rfl, ho0, ho1, hb⟩; refine ⟨_, rfl, ?_⟩; have n0_ := Aside0.mk (Kd.S_below (by (refine Qbo ?_); exact (Kd.S_mono (Kd.S_far (p := ⟨gb121, 0, none⟩) (Kd.S_types HO107.out BK121.out (by decide)) (fun _ hk => hk.2) (.slice Ao43 t118.length co43)) (fun _ h_ => h_.1))) hb); have n1_ := Aside0.mk (Kd.S_mono (Kd.S_told (Kd.S_told (Kd.S_old (by (refine Qbo ?_); exact (Kd.S_mono (Kd.S_far (p := ⟨gb121, 0, none⟩) (Kd.S_types HO110.out BK121.out (by decide)) (fun _ hk => hk.2) (.slice Ao43 t118.length co43)) (fun _ h_ => h_.1))) hb) (Kd.S_base ho0)) (Kd.R_base ho1)) (fun _ h_ => h_.1)); have n2_ := Aside0.mk (Kd.R_elder' (by (refine QbI ?_); exact (Kd.R_mono (Kd.R_far (p := ⟨gb121, 0, none⟩) (Kd.R_types HO115.out BK121.out (by decide)) (fun _ hk => hk.2) (.slice Ao43 t118.length co43)) (fun _ h_ => h_.1))) (Kd.R_base ho1) hb); have n3_ := Aside0.mk (Kd.S_below (by (refine Qbo ?_); exact (Kd.S_mono (Kd.S_far (p := ⟨gb121, 0, none⟩) (Kd.S_types HO120.out BK121.out (by decide)) (fun _ hk => hk.2) (.slice Ao43 t118.length co43)) (fun _ h_ => h_.1))) hb); have n4_ := Aside0.mk (Kd.S_lower (Kd.S_new' (Kd.S_new' ho0 (Kd.S_lt (by (refine Qbo ?_); exact (Kd.S_mono (Kd.S_far (p := ⟨gb121, 0, none⟩) (Kd.S_types HO110.out BK121.out (by decide)) (fun _ hk => hk.2) (.slice Ao43 t118.length co43)) (fun _ h_ => h_.1))))) (Kd.R_lt (by (refine QbI ?_); exact (Kd.R_mono (Kd.R_far (p := ⟨gb121, 0, none⟩) (Kd.R_types HO115.out BK121.out (by decide)) (fun _ hk => hk.2) (.slice Ao43 t118.length co43)) (fun _ h_ => h_.1))))) (QaE (bw_))); have n5_ := Aside0.mk (Kd.R_lower (Kd.R_new' ho1 (Kd.R_lt (by (refine QbI ?_); exact (Kd.R_mono (Kd.R_far (p := ⟨gb121, 0, none⟩) (Kd.R_types HO115.out BK121.out (by decide)) (fun _ hk => hk.2) (.slice Ao43 t118.length co43)) (fun _ h_ => h_.1))))) (QaE (bw_))); have n6_ := Aside0.mk (QaV (g := gb101) (o := .cells #[.slice A0_0 l0_0.length c0_0] 41 (0, 0)) (by (refine kb_ ?_); refine Qar ?_ NB101_121.out _; (refine kb_ ?_); exact BK101.out) hb); have n7_ := Aside0.mk (QaV (g := gb102) (o := .cells #[.slice A1_0 l1_0.length c1_0, .int .i64 a1_1, .int .i64 a1_2, .slice A1_3 l1_3.length c1_3, .int .i64 a1_4] 61 (0, 0)) (by (refine kb_ ?_); refine Qar ?_ NB102_121.out _; (refine kb_ ?_); exact BK102.out) hb); have n8_ := Aside0.mk (QaV (g := gb121) (o := .cells #[.slice Ao43 t118.length co43] 25 (0, 0)) (by (refine kb_ ?_); refine Qa1 (cs := #[.slice none 0 0]) ?_ 0 _ rfl; (refine kb_ ?_); exact BK121.out) hb); have n9_ := Aside0.mk (Qac (bw_) hb); clear HO107; clear HO110; clear HO115; clear HO120; clear BK101; clear BK102; clear BK121; clear HB; have HO107 := n0_; have HO110 := n1_; have HO115 := n2_; have HO120 := n3_; have HO124 := n4_; have HO129 := n5_; have BK101 := n6_; have BK102 := n7_; have BK121 := n8_; have HB := n9_; clear n0_ n1_ n2_ n3_ n4_ n5_ n6_ n7_ n8_ n9_; (try clear hb); (try clear hb2); (try clear hk); (try clear hi); (try clear ho0); (try clear ho1)) | ((with_reducible refine Qaq (N := 8) rfl ?_); refine Qam ?hg (N := 8) ?hd (cs := #[.slice none 0 0, .int .i64 0, .int .i64 0, .slice none 0 0, .int .i64 0]) (t := 46) ?hr ?_; (case hd => rfl); (case hg => rfl); (case hr => first | (go_simp; done) | (go_simp; rfl)); intro gb131 hg w49 hbox hb; have n0_ := Aside0.mk (Kd.S_below (by (refine Qbo ?_); exact HO107.out) hb); have n1_ := Aside0.mk (Kd.S_below (by (refine Qbo ?_); exact HO110.out) hb); have n2_ := Aside0.mk (Kd.R_below (by (refine QbI ?_); exact HO115.out) hb); have n3_ := Aside0.mk (Kd.S_below (by (refine Qbo ?_); exact HO120.out) hb); have n4_ := Aside0.mk (Kd.S_below (by (refine Qbo ?_); exact HO124.out) hb); have n5_ := Aside0.mk (Kd.R_below (by (refine QbI ?_); exact HO129.out) hb); have n6_ := Aside0.mk (bb_ BK101 hb); have n7_ := Aside0.mk (bb_ BK102 hb); have n8_ := Aside0.mk (bb_ BK121 hb); have n9_ := Aside0.mk (Qac (bw_) hb); have n10_ := Aside0.mk (hbox); have n11_ := Aside0.mk ((gs_ hg bw_ : w.heap.size ≤ gb131)); have n12_ := Aside0.mk ((gs_ hg bw_ : w.heap.size ≤ gb131)); have n13_ := Aside0.mk ((nl_ hg BK101 : gb101 ≠ gb131)); have n14_ := Aside0.mk ((ng_ hg BK101 : gb131 ≠ gb101)); have n15_ := Aside0.mk ((nl_ hg BK102 : gb102 ≠ gb131)); have n16_ := Aside0.mk ((ng_ hg BK102 : gb131 ≠ gb102)); have n17_ := Aside0.mk ((nl_ hg BK121 : gb121 ≠ gb131)); have n18_ := Aside0.mk ((ng_ hg BK121 : gb131 ≠ gb121)); clear HO107; clear HO110; clear HO115; clear HO120; clear HO124; clear HO129; clear BK101; clear BK102; clear BK121; clear HB; have HO107 := n0_; have HO110 := n1_; have HO115 := n2_; have HO120 := n3_; have HO124 := n4_; have HO129 := n5_; have BK101 := n6_; have BK102 := n7_; have BK121 := n8_; have HB := n9_; have BK131 := n10_; have GW131 := n11_; have GE131 := n12_; have NB101_131 := n13_; have NB131_101 := n14_; have NB102_131 := n15_; have NB131_102 := n16_; have NB121_131 := n17_; have NB131_121 := n18_; clear n0_ n1_ n2_ n3_ n4_ n5_ n6_ n7_ n8_ n9_ n10_ n11_ n12_ n13_ n14_ n15_ n16_ n17_ n18_; clear hb hbox hg; obtain ⟨Ao50, co50, eo50⟩ := Kd.S_slice HO124.out; subst eo50; have hnb51 := NB131_101.out; have hnc51 := NB101_131.out; have hnb52 := NB131_102.out; have hnc52 := NB102_131.out; have hnb53 := NB131_121.out; have hnc53 := NB121_131.out; obtain ⟨hcz54_0, hcz54_1, hcz54_2, hcz54_3, hcz54_4, hfz54_0, hfz54_1, hfz54_2, hfz54_3, hfz54_4⟩ := Qbe BK131.out; obtain ⟨Ao55, co55, eo55⟩ := Kd.R_slice HO129.out; subst eo55; obtain ⟨hcz56_0, hfz56_0⟩ := QbM BK121.out) | ((with_reducible refine Qal (f := 37) rfl ?_); refine QaU (some 31) rfl rfl Try.func37 (by kernel_rfl) rfl #[.agg #[.slice Ao43 t118.length co43], .agg #[.slice Ao50 t122.length co50, .int .i64 t125, .int .i64 t126, .slice Ao55 t127.length co55, .int .i64 t130]] rfl (by (try simp only [List.map_toArray, List.map_cons, List.map_nil]); first | done | rfl | (simp only [List.length_drop, List.length_take]; rfl)) ?_; (with_reducible refine (Qak.calls k _ _ t118 _ _ t122 t125 t126 _ _ t127 t130 t132 _ ?side1 ?side2 ?side3 ?side4 ?side5 ?side6 A24.out).mono ?_); (case side1 => refine (Kd.S_reads' (e := 34) (base := w.heap.size) (ok := fun k_ => (True ∧ some k_ ≠ (.slice Ao36 t105.length co36 : Value).ownBlock)) (n := t118.length) (c := co43) ?_).2.2; exact (by (refine Qbo ?_); exact (Kd.S_mono (Kd.S_far (p := ⟨gb131, 4, none⟩) (Kd.S_far (p := ⟨gb131, 3, none⟩) (Kd.S_far (p := ⟨gb131, 2, none⟩) (Kd.S_far (p := ⟨gb131, 1, none⟩) (Kd.S_far (p := ⟨gb131, 0, none⟩) (Kd.S_types HO120.out BK131.out (by decide)) (fun _ hk => hk.2) (.slice Ao50 t122.length co50)) (fun _ hk => hk.2) (.int .i64 t125)) (fun _ hk => hk.2) (.int .i64 t126)) (fun _ hk => hk.2) (.slice Ao55 t127.length co55)) (fun _ hk => hk.2) (.int .i64 t130)) (fun _ h_ => h_.1)))); (case side2 => exact (Kd.S_reads' HO120.out).2.1); (case side3 => refine (Kd.S_reads' (e := 67) (base := w.heap.size) (ok := fun k_ => ((some k_ ≠ (.slice Ao55 t127.length co55 : Value).ownBlock ∧ some k_ ≠ (.slice Ao37 t108.length co37 : Value).ownBlock) ∧ some k_ ≠ (.slice Ao38 t113.length co38 : Value).ownBlock)) (n := t122.length) (c := co50) ?_).2.2; exact (by (refine Qbo ?_); exact (Kd.S_mono (Kd.S_far (p := ⟨gb131, 4, none⟩) (Kd.S_far (p := ⟨gb131, 3, none⟩) (Kd.S_far (p := ⟨gb131, 2, none⟩) (Kd.S_far (p := ⟨gb131, 1, none⟩) (Kd.S_far (p := ⟨gb131, 0, none⟩) (Kd.S_types HO124.out BK131.out (by decide)) (fun _ hk => hk.2) (.slice Ao50 t122.length co50)) (fun _ hk => hk.2) (.int .i64 t125)) (fun _ hk => hk.2) (.int .i64 t126)) (fun _ hk => hk.2) (.slice Ao55 t127.length co55)) (fun _ hk => hk.2) (.int .i64 t130)) (fun _ h_ => h_.1)))); (case side4 => exact (Kd.S_reads' HO124.out).2.1); (case side5 => refine (Kd.R_reads' (e := 104) (base := w.heap.size) (ok := fun k_ => (True ∧ some k_ ≠ (.slice Ao38 t113.length co38 : Value).ownBlock)) (n := t127.length) (c := co55) ?_).2.2; exact (by (refine QbI ?_); exact (Kd.R_mono (Kd.R_far (p := ⟨gb131, 4, none⟩) (Kd.R_far (p := ⟨gb131, 3, none⟩) (Kd.R_far (p := ⟨gb131, 2, none⟩) (Kd.R_far (p := ⟨gb131, 1, none⟩) (Kd.R_far (p := ⟨gb131, 0, none⟩) (Kd.R_types HO129.out BK131.out (by decide)) (fun _ hk => hk.2) (.slice Ao50 t122.length co50)) (fun _ hk => hk.2) (.int .i64 t125)) (fun _ hk => hk.2) (.int .i64 t126)) (fun _ hk => hk.2) (.slice Ao55 t127.length co55)) (fun _ hk => hk.2) (.int .i64 t130)) (fun _ h_ => h_.1)))); (case side6 => exact (Kd.R_reads' HO129.out).2.1); rintro e w57 ⟨rfl, hb⟩; refine ⟨_, rfl, ?_⟩; have n0_ := Aside0.mk (Kd.S_below (by (refine Qbo ?_); exact (Kd.S_mono (Kd.S_far (p := ⟨gb131, 4, none⟩) (Kd.S_far (p := ⟨gb131, 3, none⟩) (Kd.S_far (p := ⟨gb131, 2, none⟩) (Kd.S_far (p := ⟨gb131, 1, none⟩) (Kd.S_far (p := ⟨gb131, 0, none⟩) (Kd.S_types HO107.out BK131.out (by decide)) (fun _ hk => hk.2) (.slice Ao50 t122.length co50)) (fun _ hk => hk.2) (.int .i64 t125)) (fun _ hk => hk.2) (.int .i64 t126)) (fun _ hk => hk.2) (.slice Ao55 t127.length co55)) (fun _ hk => hk.2) (.int .i64 t130)) (fun _ h_ => h_.1))) hb); have n1_ := Aside0.mk (Kd.S_below (by (refine Qbo ?_); exact (Kd.S_mono (Kd.S_far (p := ⟨gb131, 4, none⟩) (Kd.S_far (p := ⟨gb131, 3, none⟩) (Kd.S_far (p := ⟨gb131, 2, none⟩) (Kd.S_far (p := ⟨gb131, 1, none⟩) (Kd.S_far (p := ⟨gb131, 0, none⟩) (Kd.S_types HO110.out BK131.out (by decide)) (fun _ hk => hk.2) (.slice Ao50 t122.length co50)) (fun _ hk => hk.2) (.int .i64 t125)) (fun _ hk => hk.2) (.int .i64 t126)) (fun _ hk => hk.2) (.slice Ao55 t127.length co55)) (fun _ hk => hk.2) (.int .i64 t130)) (fun _ h_ => h_.1))) hb); have n2_ := Aside0.mk (Kd.R_below (by (refine QbI ?_); exact (Kd.R_mono (Kd.R_far (p := ⟨gb131, 4, none⟩) (Kd.R_far (p := ⟨gb131, 3, none⟩) (Kd.R_far (p := ⟨gb131, 2, none⟩) (Kd.R_far (p := ⟨gb131, 1, none⟩) (Kd.R_far (p := ⟨gb131, 0, none⟩) (Kd.R_types HO115.out BK131.out (by decide)) (fun _ hk => hk.2) (.slice Ao50 t122.length co50)) (fun _ hk => hk.2) (.int .i64 t125)) (fun _ hk => hk.2) (.int .i64 t126)) (fun _ hk => hk.2) (.slice Ao55 t127.length co55)) (fun _ hk => hk.2) (.int .i64 t130)) (fun _ h_ => h_.1))) hb); have n3_ := Aside0.mk (Kd.S_below (by (refine Qbo ?_); exact (Kd.S_mono (Kd.S_far (p := ⟨gb131, 4, none⟩) (Kd.S_far (p := ⟨gb131, 3, none⟩) (Kd.S_far (p := ⟨gb131, 2, none⟩) (Kd.S_far (p := ⟨gb131, 1, none⟩) (Kd.S_far (p := ⟨gb131, 0, none⟩) (Kd.S_types HO120.out BK131.out (by decide)) (fun _ hk => hk.2) (.slice Ao50 t122.length co50)) (fun _ hk => hk.2) (.int .i64 t125)) (fun _ hk => hk.2) (.int .i64 t126)) (fun _ hk => hk.2) (.slice Ao55 t127.length co55)) (fun _ hk => hk.2) (.int .i64 t130)) (fun _ h_ => h_.1))) hb); have n4_ := Aside0.mk (Kd.S_below (by (refine Qbo ?_); exact (Kd.S_mono (Kd.S_far (p := ⟨gb131, 4, none⟩) (Kd.S_far (p := ⟨gb131, 3, none⟩) (Kd.S_far (p := ⟨gb131, 2, none⟩) (Kd.S_far (p := ⟨gb131, 1, none⟩) (Kd.S_far (p := ⟨gb131, 0, none⟩) (Kd.S_types HO124.out BK131.out (by decide)) (fun _ hk => hk.2) (.slice Ao50 t122.length co50)) (fun _ hk => hk.2) (.int .i64 t125)) (fun _ hk => hk.2) (.int .i64 t126)) (fun _ hk => hk.2) (.slice Ao55 t127.length co55)) (fun _ hk => hk.2) (.int .i64 t130)) (fun _ h_ => h_.1))) hb); have n5_ := Aside0.mk (Kd.R_below (by (refine QbI ?_); exact (Kd.R_mono (Kd.R_far (p := ⟨gb131, 4, none⟩) (Kd.R_far (p := ⟨gb131, 3, none⟩) (Kd.R_far (p := ⟨gb131, 2, none⟩) (Kd.R_far (p := ⟨gb131, 1, none⟩) (Kd.R_far (p := ⟨gb131, 0, none⟩) (Kd.R_types HO129.out BK131.out (by decide)) (fun _ hk => hk.2) (.slice Ao50 t122.length co50)) (fun _ hk => hk.2) (.int .i64 t125)) (fun _ hk => hk.2) (.int .i64 t126)) (fun _ hk => hk.2) (.slice Ao55 t127.length co55)) (fun _ hk => hk.2) (.int .i64 t130)) (fun _ h_ => h_.1))) hb); have n6_ := Aside0.mk (QaV (g := gb101) (o := .cells #[.slice A0_0 l0_0.length c0_0] 41 (0, 0)) (by (refine kb_ ?_); refine Qar ?_ NB101_131.out _; (refine kb_ ?_); refine Qar ?_ NB101_131.out _; (refine kb_ ?_); refine Qar ?_ NB101_131.out _; (refine kb_ ?_); refine Qar ?_ NB101_131.out _; (refine kb_ ?_); refine Qar ?_ NB101_131.out _; (refine kb_ ?_); exact BK101.out) hb); have n7_ := Aside0.mk (QaV (g := gb102) (o := .cells #[.slice A1_0 l1_0.length c1_0, .int .i64 a1_1, .int .i64 a1_2, .slice A1_3 l1_3.length c1_3, .int .i64 a1_4] 61 (0, 0)) (by (refine kb_ ?_); refine Qar ?_ NB102_131.out _; (refine kb_ ?_); refine Qar ?_ NB102_131.out _; (refine kb_ ?_); refine Qar ?_ NB102_131.out _; (refine kb_ ?_); refine Qar ?_ NB102_131.out _; (refine kb_ ?_); refine Qar ?_ NB102_131.out _; (refine kb_ ?_); exact BK102.out) hb); have n8_ := Aside0.mk (QaV (g := gb121) (o := .cells #[.slice Ao43 t118.length co43] 25 (0, 0)) (by (refine kb_ ?_); refine Qar ?_ NB121_131.out _; (refine kb_ ?_); refine Qar ?_ NB121_131.out _; (refine kb_ ?_); refine Qar ?_ NB121_131.out _; (refine kb_ ?_); refine Qar ?_ NB121_131.out _; (refine kb_ ?_); refine Qar ?_ NB121_131.out _; (refine kb_ ?_); exact BK121.out) hb); have n9_ := Aside0.mk (QaV (g := gb131) (o := .cells #[.slice Ao50 t122.length co50, .int .i64 t125, .int .i64 t126, .slice Ao55 t127.length co55, .int .i64 t130] 46 (0, 0)) (by (refine kb_ ?_); refine Qa1 (cs := #[.slice Ao50 t122.length co50, .int .i64 t125, .int .i64 t126, .slice Ao55 t127.length co55, .int .i64 0]) ?_ 4 _ rfl; (refine kb_ ?_); refine Qa1 (cs := #[.slice Ao50 t122.length co50, .int .i64 t125, .int .i64 t126, .slice none 0 0, .int .i64 0]) ?_ 3 _ rfl; (refine kb_ ?_); refine Qa1 (cs := #[.slice Ao50 t122.length co50, .int .i64 t125, .int .i64 0, .slice none 0 0, .int .i64 0]) ?_ 2 _ rfl; (refine kb_ ?_); refine Qa1 (cs := #[.slice Ao50 t122.length co50, .int .i64 0, .int .i64 0, .slice none 0 0, .int .i64 0]) ?_ 1 _ rfl; (refine kb_ ?_); refine Qa1 (cs := #[.slice none 0 0, .int .i64 0, .int .i64 0, .slice none 0 0, .int .i64 0]) ?_ 0 _ rfl; (refine kb_ ?_); exact BK131.out) hb); have n10_ := Aside0.mk (Qac (bw_) hb); clear HO107; clear HO110; clear HO115; clear HO120; clear HO124; clear HO129; clear BK101; clear BK102; clear BK121; clear BK131; clear HB; have HO107 := n0_; have HO110 := n1_; have HO115 := n2_; have HO120 := n3_; have HO124 := n4_; have HO129 := n5_; have BK101 := n6_; have BK102 := n7_; have BK121 := n8_; have BK131 := n9_; have HB := n10_; clear n0_ n1_ n2_ n3_ n4_ n5_ n6_ n7_ n8_ n9_ n10_; (try clear hb); (try clear hb2); (try clear hk); (try clear hi)))
       go_ret
       exact ⟨by first | rfl | (simp [Qaf, Qag] <;> rfl) | (simp [*, Qaf, Qag] <;> rfl), bw_⟩
     · rw [if_neg c25] at H
       have c25b0 : (t132 != t117) = false := by simpa using c25
       (try (have c25b1 : decide (t132 = t117) = true := by simpa using c25))
       (try (have c25b2 : (t132 == t117) = true := by simpa using c25))
       clear c25
       replace H := Option.bind_eq_some_iff.mp H
       obtain ⟨t133, A580, H⟩ := H
       replace H : ((Qbj.f k t118 t133).bind fun t136 => (if t136 = true then ((QaK.f k l1_0 a1_1 a1_2 l1_3 a1_4).bind fun bt137 => ((Qbf.f k t122 t125 t126 t127 t130 bt137.1 bt137.2.1 bt137.2.2.1 bt137.2.2.2.1 bt137.2.2.2.2).bind fun t146 => (if t146 = true then (some true) else (some false)))) else (some false))) = some r := H
       have A58 := Aside0.mk A580
       clear A580
       replace H := Option.bind_eq_some_iff.mp H
       obtain ⟨t136, A590, H⟩ := H
       replace H : (if t136 = true then ((QaK.f k l1_0 a1_1 a1_2 l1_3 a1_4).bind fun bt137 => ((Qbf.f k t122 t125 t126 t127 t130 bt137.1 bt137.2.1 bt137.2.2.1 bt137.2.2.2.1 bt137.2.2.2.2).bind fun t146 => (if t146 = true then (some true) else (some false)))) else (some false)) = some r := H
       have A59 := Aside0.mk A590
       clear A590
       by_cases c60 : t136 = true
       · subst c60
         have H1 : ((QaK.f k l1_0 a1_1 a1_2 l1_3 a1_4).bind fun bt137 => ((Qbf.f k t122 t125 t126 t127 t130 bt137.1 bt137.2.1 bt137.2.2.1 bt137.2.2.2.1 bt137.2.2.2.2).bind fun t146 => (if t146 = true then (some true) else (some false)))) = some r := by rw [if_pos rfl] at H; exact H
         clear H
         have H := H1
         clear H1
         replace H := Option.bind_eq_some_iff.mp H
         obtain ⟨⟨t137, t140, t141, t142, t145⟩, A610, H⟩ := H
         replace H : ((Qbf.f k t122 t125 t126 t127 t130 t137 t140 t141 t142 t145).bind fun t146 => (if t146 = true then (some true) else (some false))) = some r := H
         have A61 := Aside0.mk A610
         clear A610
         replace H := Option.bind_eq_some_iff.mp H
         obtain ⟨t146, A620, H⟩ := H
         replace H : (if t146 = true then (some true) else (some false)) = some r := H
         have A62 := Aside0.mk A620
         clear A620
         by_cases c63 : t146 = true
         · subst c63
           have H1 : (some true) = some r := by rw [if_pos rfl] at H; exact H
           clear H
           have H := H1
           clear H1
           obtain rfl := Option.some.inj H
           go_enter Try.func8, Try.ntmps8
           try go_wp2_with (first | ((with_reducible refine Qaq (N := 2) rfl ?_); refine Qam ?hg (N := 2) ?hd (cs := #[.slice A0_0 l0_0.length c0_0]) (t := 41) ?hr ?_; (case hd => rfl); (case hg => rfl); (case hr => first | (go_simp; done) | (go_simp; rfl)); intro gb101 hg w64 hbox hb; have n0_ := Aside0.mk (Qac (bw_) hb); have n1_ := Aside0.mk (hbox); have n2_ := Aside0.mk ((gs_ hg bw_ : w.heap.size ≤ gb101)); have n3_ := Aside0.mk ((gs_ hg bw_ : w.heap.size ≤ gb101)); clear HB; have HB := n0_; have BK101 := n1_; have GW101 := n2_; have GE101 := n3_; clear n0_ n1_ n2_ n3_; clear hb hbox hg) | ((with_reducible refine Qaq (N := 3) rfl ?_); refine Qam ?hg (N := 3) ?hd (cs := #[.slice A1_0 l1_0.length c1_0, .int .i64 a1_1, .int .i64 a1_2, .slice A1_3 l1_3.length c1_3, .int .i64 a1_4]) (t := 61) ?hr ?_; (case hd => rfl); (case hg => rfl); (case hr => first | (go_simp; done) | (go_simp; rfl)); intro gb102 hg w65 hbox hb; have n0_ := Aside0.mk (bb_ BK101 hb); have n1_ := Aside0.mk (Qac (bw_) hb); have n2_ := Aside0.mk (hbox); have n3_ := Aside0.mk ((gs_ hg bw_ : w.heap.size ≤ gb102)); have n4_ := Aside0.mk ((gs_ hg bw_ : w.heap.size ≤ gb102)); have n5_ := Aside0.mk ((nl_ hg BK101 : gb101 ≠ gb102)); have n6_ := Aside0.mk ((ng_ hg BK101 : gb102 ≠ gb101)); clear BK101; clear HB; have BK101 := n0_; have HB := n1_; have BK102 := n2_; have GW102 := n3_; have GE102 := n4_; have NB101_102 := n5_; have NB102_101 := n6_; clear n0_ n1_ n2_ n3_ n4_ n5_ n6_; clear hb hbox hg; have hnb66 := NB101_102.out; have hnc66 := NB102_101.out; obtain ⟨hcz67_0, hfz67_0⟩ := QbM BK101.out) | ((with_reducible refine Qal (f := 26) rfl ?_); refine QaU (some 12) rfl rfl Try.func26 (by kernel_rfl) rfl #[.agg #[.slice A0_0 l0_0.length c0_0], .int .i64 1048576] rfl (by (try simp only [List.map_toArray, List.map_cons, List.map_nil]); first | done | rfl | (simp only [List.length_drop, List.length_take]; rfl)) ?_; (with_reducible refine (Qbs.calls k _ _ l0_0 1048576 t103 _ ?side1 ?side2 A3.out).mono ?_); (case side1 => exact cb_); (case side2 => exact HC0_0.out); rintro e w68 ⟨rfl, hb⟩; refine ⟨_, rfl, ?_⟩; have n0_ := Aside0.mk (bb_ BK101 hb); have n1_ := Aside0.mk (bb_ BK102 hb); have n2_ := Aside0.mk (Qac (bw_) hb); clear BK101; clear BK102; clear HB; have BK101 := n0_; have BK102 := n1_; have HB := n2_; clear n0_ n1_ n2_; (try clear hb); (try clear hb2); (try clear hk); (try clear hi); obtain ⟨hcz69_0, hcz69_1, hcz69_2, hcz69_3, hcz69_4, hfz69_0, hfz69_1, hfz69_2, hfz69_3, hfz69_4⟩ := Qbe BK102.out) | ((with_reducible refine Qal (f := 41) rfl ?_); refine QaU (some 17) rfl rfl Try.func41 (by kernel_rfl) rfl #[.agg #[.slice A1_0 l1_0.length c1_0, .int .i64 a1_1, .int .i64 a1_2, .slice A1_3 l1_3.length c1_3, .int .i64 a1_4], .int .i64 t103] rfl (by (try simp only [List.map_toArray, List.map_cons, List.map_nil]); first | done | rfl | (simp only [List.length_drop, List.length_take]; rfl)) ?_; (with_reducible refine (Qbr.calls k _ _ l1_0 a1_1 a1_2 _ _ l1_3 a1_4 t103 t104 _ ?side1 ?side2 ?side3 ?side4 A10.out).mono ?_); (case side1 => exact cb_); (case side2 => exact HC1_0.out); (case side3 => exact cb_); (case side4 => exact HC1_3.out); rintro e w70 ⟨rfl, hb⟩; refine ⟨_, rfl, ?_⟩; have n0_ := Aside0.mk (bb_ BK101 hb); have n1_ := Aside0.mk (bb_ BK102 hb); have n2_ := Aside0.mk (Qac (bw_) hb); clear BK101; clear BK102; clear HB; have BK101 := n0_; have BK102 := n1_; have HB := n2_; clear n0_ n1_ n2_; (try clear hb); (try clear hb2); (try clear hk); (try clear hi)))
           have n0_ := Aside0.mk (Qa2 BK101.out)
           have n1_ := Aside0.mk (Qa2 BK102.out)
           have n2_ := Aside0.mk (Qa7 HB.out)
           clear BK101
           clear BK102
           clear HB
           have BK101 := n0_
           have BK102 := n1_
           have HB := n2_
           clear n0_ n1_ n2_
           refine QbP (n := 6) (S := fun w' => w'.cell? ⟨gb101, 0, none⟩ = some (.slice A0_0 l0_0.length c0_0) ∧ w'.cell? ⟨gb102, 0, none⟩ = some (.slice A1_0 l1_0.length c1_0) ∧ w'.cell? ⟨gb102, 1, none⟩ = some (.int .i64 a1_1) ∧ w'.cell? ⟨gb102, 2, none⟩ = some (.int .i64 a1_2) ∧ w'.cell? ⟨gb102, 3, none⟩ = some (.slice A1_3 l1_3.length c1_3) ∧ w'.cell? ⟨gb102, 4, none⟩ = some (.int .i64 a1_4)) (ds := []) #[false, false, false, false, false, false] (by kernel_rfl) rfl rfl ⟨(Qab BK101.out 0).trans rfl, (Qab BK102.out 0).trans rfl, (Qab BK102.out 1).trans rfl, (Qab BK102.out 2).trans rfl, (Qab BK102.out 3).trans rfl, (Qab BK102.out 4).trans rfl⟩ (fun hHeld => ?_)
           generalize w70.drew = w71 at BK101 BK102 HB hHeld ⊢
           refine tk_ 0 (some 20) #[true, false, false, false, false, false] rfl rfl hHeld ?_
           refine tk_ 2 (some 22) #[true, false, true, false, false, false] rfl rfl hHeld ?_
           refine Qcx (i := 1) (N := some 21) #[true, true, true, false, false, false] rfl rfl (by kernel_rfl) (by decide) (fun K hK => ?_)
           refine QbL Try.func28 (by kernel_rfl) rfl #[.agg #[.slice A0_0 l0_0.length c0_0]] (by rfl) rfl rfl (by (try simp only [List.map_toArray, List.map_cons, List.map_nil]); first | done | rfl | (simp only [List.length_drop, List.length_take]; rfl)) ?_
           with_reducible refine (QaT.calls k _ _ l0_0 t105 _ ?side1 ?side2 A19.out).mono ?_
           (case side1 => exact cb_)
           (case side2 => exact HC0_0.out)
           rintro e w72 ⟨v106, rfl, ho0, hb⟩
           refine ⟨_, rfl, ?_⟩
           have n0_ := Aside0.mk (Kd.S_lower ho0 (QaE (bw_)))
           have n1_ := Aside0.mk (bb_ BK101 hb)
           have n2_ := Aside0.mk (bb_ BK102 hb)
           have n3_ := Aside0.mk (Qac (bw_) hb)
           clear BK101
           clear BK102
           clear HB
           have HO107 := n0_
           have BK101 := n1_
           have BK102 := n2_
           have HB := n3_
           clear n0_ n1_ n2_ n3_
           (try clear hb)
           (try clear hb2)
           (try clear hk)
           (try clear hi)
           (try clear ho0)
           refine hK.out _ _ ⟨(Qab BK101.out 0).trans rfl, (Qab BK102.out 0).trans rfl, (Qab BK102.out 1).trans rfl, (Qab BK102.out 2).trans rfl, (Qab BK102.out 3).trans rfl, (Qab BK102.out 4).trans rfl⟩ (fun hHeld => ?_)
           clear hK K
           refine QbK (a' := ?_) ?_ ?_
           rotate_left
           · show Act.put _ (some 21) _ = _
             simp only [Act.put, List.setIfInBounds_toArray, List.set_cons_zero, List.set_cons_succ, QbA, QbB]
             rfl
           refine Qcx (i := 3) (N := some 23) #[true, true, true, true, false, false] rfl rfl (by kernel_rfl) (by decide) (fun K hK => ?_)
           refine QbL Try.func43 (by kernel_rfl) rfl #[.agg #[.slice A1_0 l1_0.length c1_0, .int .i64 a1_1, .int .i64 a1_2, .slice A1_3 l1_3.length c1_3, .int .i64 a1_4]] (by rfl) rfl rfl (by (try simp only [List.map_toArray, List.map_cons, List.map_nil]); first | done | rfl | (simp only [List.length_drop, List.length_take]; rfl)) ?_
           with_reducible refine (QaK.calls k _ _ l1_0 a1_1 a1_2 _ _ l1_3 a1_4 t108 t111 t112 t113 t116 _ ?side1 ?side2 ?side3 ?side4 A20.out).mono ?_
           (case side1 => exact cb_)
           (case side2 => exact HC1_0.out)
           (case side3 => exact cb_)
           (case side4 => exact HC1_3.out)
           rintro e w73 ⟨v109, v114, rfl, ho0, ho1, hb⟩
           refine ⟨_, rfl, ?_⟩
           have n0_ := Aside0.mk (Kd.S_below (by (refine Qbo ?_); exact HO107.out) hb)
           have n1_ := Aside0.mk (Kd.S_lower ho0 (QaE (bw_)))
           have n2_ := Aside0.mk (Kd.R_lower ho1 (QaE (bw_)))
           have n3_ := Aside0.mk (bb_ BK101 hb)
           have n4_ := Aside0.mk (bb_ BK102 hb)
           have n5_ := Aside0.mk (Qac (bw_) hb)
           clear HO107
           clear BK101
           clear BK102
           clear HB
           have HO107 := n0_
           have HO110 := n1_
           have HO115 := n2_
           have BK101 := n3_
           have BK102 := n4_
           have HB := n5_
           clear n0_ n1_ n2_ n3_ n4_ n5_
           (try clear hb)
           (try clear hb2)
           (try clear hk)
           (try clear hi)
           (try clear ho0)
           (try clear ho1)
           obtain ⟨Ao74, co74, eo74⟩ := Kd.S_slice HO107.out
           (first | subst eo74 | (injection eo74 with f1_ f2_ f3_; have f4_ := f1_.symm; have f5_ := f3_.symm; clear f1_ f2_ f3_; subst f4_; subst f5_))
           obtain ⟨Ao75, co75, eo75⟩ := Kd.S_slice HO110.out
           (first | subst eo75 | (injection eo75 with f1_ f2_ f3_; have f4_ := f1_.symm; have f5_ := f3_.symm; clear f1_ f2_ f3_; subst f4_; subst f5_))
           obtain ⟨Ao76, co76, eo76⟩ := Kd.R_slice HO115.out
           (first | subst eo76 | (injection eo76 with f1_ f2_ f3_; have f4_ := f1_.symm; have f5_ := f3_.symm; clear f1_ f2_ f3_; subst f4_; subst f5_))
           refine hK.out _ _ ⟨(Qab BK101.out 0).trans rfl, (Qab BK102.out 0).trans rfl, (Qab BK102.out 1).trans rfl, (Qab BK102.out 2).trans rfl, (Qab BK102.out 3).trans rfl, (Qab BK102.out 4).trans rfl⟩ (fun hHeld => ?_)
           clear hK K
           refine QbK (a' := ?_) ?_ ?_
           rotate_left
           · show Act.put _ (some 23) _ = _
             simp only [Act.put, List.setIfInBounds_toArray, List.set_cons_zero, List.set_cons_succ, QbA, QbB]
             rfl
           refine Qcx (i := 4) (N := some 24) #[true, true, true, true, true, false] rfl rfl (by kernel_rfl) (by decide) (fun K hK => ?_)
           refine QbL Try.func42 (by kernel_rfl) rfl #[.agg #[.slice Ao74 t105.length co74], .agg #[.slice Ao75 t108.length co75, .int .i64 t111, .int .i64 t112, .slice Ao76 t113.length co76, .int .i64 t116]] (by rfl) rfl rfl (by (try simp only [List.map_toArray, List.map_cons, List.map_nil]); first | done | rfl | (simp only [List.length_drop, List.length_take]; rfl)) ?_
           with_reducible refine (Qah.calls k _ _ t105 _ _ t108 t111 t112 _ _ t113 t116 t117 _ ?side1 ?side2 ?side3 ?side4 ?side5 ?side6 A21.out).mono ?_
           (case side1 => repeat (first | exact (Kd.S_reads' HO107.out).2.2 | (with_reducible refine Kd.C_alloc ?_ _) | (with_reducible refine Kd.C_drewN ?_ _) | (with_reducible refine Kd.C_drew ?_)))
           (case side2 => exact (Kd.S_reads' HO107.out).2.1)
           (case side3 => repeat (first | exact (Kd.S_reads' HO110.out).2.2 | (with_reducible refine Kd.C_alloc ?_ _) | (with_reducible refine Kd.C_drewN ?_ _) | (with_reducible refine Kd.C_drew ?_)))
           (case side4 => exact (Kd.S_reads' HO110.out).2.1)
           (case side5 => repeat (first | exact (Kd.R_reads' HO115.out).2.2 | (with_reducible refine Kd.C_alloc ?_ _) | (with_reducible refine Kd.C_drewN ?_ _) | (with_reducible refine Kd.C_drew ?_)))
           (case side6 => exact (Kd.R_reads' HO115.out).2.1)
           rintro e w77 ⟨rfl, hb⟩
           refine ⟨_, rfl, ?_⟩
           have n0_ := Aside0.mk (Kd.S_below (by (refine Qbo ?_); exact HO107.out) hb)
           have n1_ := Aside0.mk (Kd.S_below (by (refine Qbo ?_); exact HO110.out) hb)
           have n2_ := Aside0.mk (Kd.R_below (by (refine QbI ?_); exact HO115.out) hb)
           have n3_ := Aside0.mk (bb_ BK101 hb)
           have n4_ := Aside0.mk (bb_ BK102 hb)
           have n5_ := Aside0.mk (Qac (bw_) hb)
           clear HO107
           clear HO110
           clear HO115
           clear BK101
           clear BK102
           clear HB
           have HO107 := n0_
           have HO110 := n1_
           have HO115 := n2_
           have BK101 := n3_
           have BK102 := n4_
           have HB := n5_
           clear n0_ n1_ n2_ n3_ n4_ n5_
           (try clear hb)
           (try clear hb2)
           (try clear hk)
           (try clear hi)
           refine hK.out _ _ ⟨(Qab BK101.out 0).trans rfl, (Qab BK102.out 0).trans rfl, (Qab BK102.out 1).trans rfl, (Qab BK102.out 2).trans rfl, (Qab BK102.out 3).trans rfl, (Qab BK102.out 4).trans rfl⟩ (fun hHeld => ?_)
           clear hK K
           refine QbK (a' := ?_) ?_ ?_
           rotate_left
           · show Act.put _ (some 24) _ = _
             simp only [Act.put, List.setIfInBounds_toArray, List.set_cons_zero, List.set_cons_succ, QbA, QbB]
             rfl
           refine pu_ 5 (some 6) #[true, true, true, true, true, true] rfl rfl ?_
           refine Qcc (by kernel_rfl) ?_
           have hcz78_0 : w77.cell? ⟨gb101, 0, none⟩ = some (.slice A0_0 l0_0.length c0_0) := (Qab BK101.out 0).trans rfl
           have hfz78_0 := Qad BK101.out 0
           try go_wp2_with (first | ((with_reducible refine Qal (f := 28) rfl ?_); refine QaU (some 26) rfl rfl Try.func28 (by kernel_rfl) rfl #[.agg #[.slice A0_0 l0_0.length c0_0]] rfl (by (try simp only [List.map_toArray, List.map_cons, List.map_nil]); first | done | rfl | (simp only [List.length_drop, List.length_take]; rfl)) ?_; (with_reducible refine (QaT.calls k _ _ l0_0 t118 _ ?side1 ?side2 A22.out).mono ?_); (case side1 => exact cb_); (case side2 => exact HC0_0.out); rintro e w79 ⟨v119, rfl, ho0, hb⟩; refine ⟨_, rfl, ?_⟩; have n0_ := Aside0.mk (Kd.S_elder' (by (refine Qbo ?_); exact HO107.out) (Kd.S_base ho0) hb); have n1_ := Aside0.mk (Kd.S_below (by (refine Qbo ?_); exact HO110.out) hb); have n2_ := Aside0.mk (Kd.R_below (by (refine QbI ?_); exact HO115.out) hb); have n3_ := Aside0.mk (Kd.S_lower (Kd.S_new' ho0 (Kd.S_lt (by (refine Qbo ?_); exact HO107.out))) (QaE (bw_))); have n4_ := Aside0.mk (bb_ BK101 hb); have n5_ := Aside0.mk (bb_ BK102 hb); have n6_ := Aside0.mk (Qac (bw_) hb); clear HO107; clear HO110; clear HO115; clear BK101; clear BK102; clear HB; have HO107 := n0_; have HO110 := n1_; have HO115 := n2_; have HO120 := n3_; have BK101 := n4_; have BK102 := n5_; have HB := n6_; clear n0_ n1_ n2_ n3_ n4_ n5_ n6_; (try clear hb); (try clear hb2); (try clear hk); (try clear hi); (try clear ho0)) | ((with_reducible refine Qaq (N := 7) rfl ?_); refine Qam ?hg (N := 7) ?hd (cs := #[.slice none 0 0]) (t := 25) ?hr ?_; (case hd => rfl); (case hg => rfl); (case hr => first | (go_simp; done) | (go_simp; rfl)); intro gb121 hg w80 hbox hb; have n0_ := Aside0.mk (Kd.S_below (by (refine Qbo ?_); exact HO107.out) hb); have n1_ := Aside0.mk (Kd.S_below (by (refine Qbo ?_); exact HO110.out) hb); have n2_ := Aside0.mk (Kd.R_below (by (refine QbI ?_); exact HO115.out) hb); have n3_ := Aside0.mk (Kd.S_below (by (refine Qbo ?_); exact HO120.out) hb); have n4_ := Aside0.mk (bb_ BK101 hb); have n5_ := Aside0.mk (bb_ BK102 hb); have n6_ := Aside0.mk (Qac (bw_) hb); have n7_ := Aside0.mk (hbox); have n8_ := Aside0.mk ((gs_ hg bw_ : w.heap.size ≤ gb121)); have n9_ := Aside0.mk ((gs_ hg bw_ : w.heap.size ≤ gb121)); have n10_ := Aside0.mk ((nl_ hg BK101 : gb101 ≠ gb121)); have n11_ := Aside0.mk ((ng_ hg BK101 : gb121 ≠ gb101)); have n12_ := Aside0.mk ((nl_ hg BK102 : gb102 ≠ gb121)); have n13_ := Aside0.mk ((ng_ hg BK102 : gb121 ≠ gb102)); clear HO107; clear HO110; clear HO115; clear HO120; clear BK101; clear BK102; clear HB; have HO107 := n0_; have HO110 := n1_; have HO115 := n2_; have HO120 := n3_; have BK101 := n4_; have BK102 := n5_; have HB := n6_; have BK121 := n7_; have GW121 := n8_; have GE121 := n9_; have NB101_121 := n10_; have NB121_101 := n11_; have NB102_121 := n12_; have NB121_102 := n13_; clear n0_ n1_ n2_ n3_ n4_ n5_ n6_ n7_ n8_ n9_ n10_ n11_ n12_ n13_; clear hb hbox hg; obtain ⟨Ao81, co81, eo81⟩ := Kd.S_slice HO120.out; subst eo81; have hnb82 := NB121_101.out; have hnc82 := NB101_121.out; have hnb83 := NB121_102.out; have hnc83 := NB102_121.out; obtain ⟨hcz84_0, hfz84_0⟩ := QbM BK121.out; obtain ⟨hcz85_0, hcz85_1, hcz85_2, hcz85_3, hcz85_4, hfz85_0, hfz85_1, hfz85_2, hfz85_3, hfz85_4⟩ := Qbe BK102.out) | ((with_reducible refine Qal (f := 43) rfl ?_); refine QaU (some 28) rfl rfl Try.func43 (by kernel_rfl) rfl #[.agg #[.slice A1_0 l1_0.length c1_0, .int .i64 a1_1, .int .i64 a1_2, .slice A1_3 l1_3.length c1_3, .int .i64 a1_4]] rfl (by (try simp only [List.map_toArray, List.map_cons, List.map_nil]); first | done | rfl | (simp only [List.length_drop, List.length_take]; rfl)) ?_; (with_reducible refine (QaK.calls k _ _ l1_0 a1_1 a1_2 _ _ l1_3 a1_4 t122 t125 t126 t127 t130 _ ?side1 ?side2 ?side3 ?side4 A23.out).mono ?_); (case side1 => exact Kd.C_below HR1_0.out (bw_)); (case side2 => exact HC1_0.out); (case side3 => exact Kd.C_below HR1_3.out (bw_)); (case side4 => exact HC1_3.out); rintro e w86 ⟨v123, v128, rfl, ho0, ho1, hb⟩; refine ⟨_, rfl, ?_⟩; have n0_ := Aside0.mk (Kd.S_below (by (refine Qbo ?_); exact (Kd.S_mono (Kd.S_far (p := ⟨gb121, 0, none⟩) (Kd.S_types HO107.out BK121.out (by decide)) (fun _ hk => hk.2) (.slice Ao81 t118.length co81)) (fun _ h_ => h_.1))) hb); have n1_ := Aside0.mk (Kd.S_mono (Kd.S_told (Kd.S_told (Kd.S_old (by (refine Qbo ?_); exact (Kd.S_mono (Kd.S_far (p := ⟨gb121, 0, none⟩) (Kd.S_types HO110.out BK121.out (by decide)) (fun _ hk => hk.2) (.slice Ao81 t118.length co81)) (fun _ h_ => h_.1))) hb) (Kd.S_base ho0)) (Kd.R_base ho1)) (fun _ h_ => h_.1)); have n2_ := Aside0.mk (Kd.R_elder' (by (refine QbI ?_); exact (Kd.R_mono (Kd.R_far (p := ⟨gb121, 0, none⟩) (Kd.R_types HO115.out BK121.out (by decide)) (fun _ hk => hk.2) (.slice Ao81 t118.length co81)) (fun _ h_ => h_.1))) (Kd.R_base ho1) hb); have n3_ := Aside0.mk (Kd.S_below (by (refine Qbo ?_); exact (Kd.S_mono (Kd.S_far (p := ⟨gb121, 0, none⟩) (Kd.S_types HO120.out BK121.out (by decide)) (fun _ hk => hk.2) (.slice Ao81 t118.length co81)) (fun _ h_ => h_.1))) hb); have n4_ := Aside0.mk (Kd.S_lower (Kd.S_new' (Kd.S_new' ho0 (Kd.S_lt (by (refine Qbo ?_); exact (Kd.S_mono (Kd.S_far (p := ⟨gb121, 0, none⟩) (Kd.S_types HO110.out BK121.out (by decide)) (fun _ hk => hk.2) (.slice Ao81 t118.length co81)) (fun _ h_ => h_.1))))) (Kd.R_lt (by (refine QbI ?_); exact (Kd.R_mono (Kd.R_far (p := ⟨gb121, 0, none⟩) (Kd.R_types HO115.out BK121.out (by decide)) (fun _ hk => hk.2) (.slice Ao81 t118.length co81)) (fun _ h_ => h_.1))))) (QaE (bw_))); have n5_ := Aside0.mk (Kd.R_lower (Kd.R_new' ho1 (Kd.R_lt (by (refine QbI ?_); exact (Kd.R_mono (Kd.R_far (p := ⟨gb121, 0, none⟩) (Kd.R_types HO115.out BK121.out (by decide)) (fun _ hk => hk.2) (.slice Ao81 t118.length co81)) (fun _ h_ => h_.1))))) (QaE (bw_))); have n6_ := Aside0.mk (QaV (g := gb101) (o := .cells #[.slice A0_0 l0_0.length c0_0] 41 (0, 0)) (by (refine kb_ ?_); refine Qar ?_ NB101_121.out _; (refine kb_ ?_); exact BK101.out) hb); have n7_ := Aside0.mk (QaV (g := gb102) (o := .cells #[.slice A1_0 l1_0.length c1_0, .int .i64 a1_1, .int .i64 a1_2, .slice A1_3 l1_3.length c1_3, .int .i64 a1_4] 61 (0, 0)) (by (refine kb_ ?_); refine Qar ?_ NB102_121.out _; (refine kb_ ?_); exact BK102.out) hb); have n8_ := Aside0.mk (QaV (g := gb121) (o := .cells #[.slice Ao81 t118.length co81] 25 (0, 0)) (by (refine kb_ ?_); refine Qa1 (cs := #[.slice none 0 0]) ?_ 0 _ rfl; (refine kb_ ?_); exact BK121.out) hb); have n9_ := Aside0.mk (Qac (bw_) hb); clear HO107; clear HO110; clear HO115; clear HO120; clear BK101; clear BK102; clear BK121; clear HB; have HO107 := n0_; have HO110 := n1_; have HO115 := n2_; have HO120 := n3_; have HO124 := n4_; have HO129 := n5_; have BK101 := n6_; have BK102 := n7_; have BK121 := n8_; have HB := n9_; clear n0_ n1_ n2_ n3_ n4_ n5_ n6_ n7_ n8_ n9_; (try clear hb); (try clear hb2); (try clear hk); (try clear hi); (try clear ho0); (try clear ho1)) | ((with_reducible refine Qaq (N := 8) rfl ?_); refine Qam ?hg (N := 8) ?hd (cs := #[.slice none 0 0, .int .i64 0, .int .i64 0, .slice none 0 0, .int .i64 0]) (t := 46) ?hr ?_; (case hd => rfl); (case hg => rfl); (case hr => first | (go_simp; done) | (go_simp; rfl)); intro gb131 hg w87 hbox hb; have n0_ := Aside0.mk (Kd.S_below (by (refine Qbo ?_); exact HO107.out) hb); have n1_ := Aside0.mk (Kd.S_below (by (refine Qbo ?_); exact HO110.out) hb); have n2_ := Aside0.mk (Kd.R_below (by (refine QbI ?_); exact HO115.out) hb); have n3_ := Aside0.mk (Kd.S_below (by (refine Qbo ?_); exact HO120.out) hb); have n4_ := Aside0.mk (Kd.S_below (by (refine Qbo ?_); exact HO124.out) hb); have n5_ := Aside0.mk (Kd.R_below (by (refine QbI ?_); exact HO129.out) hb); have n6_ := Aside0.mk (bb_ BK101 hb); have n7_ := Aside0.mk (bb_ BK102 hb); have n8_ := Aside0.mk (bb_ BK121 hb); have n9_ := Aside0.mk (Qac (bw_) hb); have n10_ := Aside0.mk (hbox); have n11_ := Aside0.mk ((gs_ hg bw_ : w.heap.size ≤ gb131)); have n12_ := Aside0.mk ((gs_ hg bw_ : w.heap.size ≤ gb131)); have n13_ := Aside0.mk ((nl_ hg BK101 : gb101 ≠ gb131)); have n14_ := Aside0.mk ((ng_ hg BK101 : gb131 ≠ gb101)); have n15_ := Aside0.mk ((nl_ hg BK102 : gb102 ≠ gb131)); have n16_ := Aside0.mk ((ng_ hg BK102 : gb131 ≠ gb102)); have n17_ := Aside0.mk ((nl_ hg BK121 : gb121 ≠ gb131)); have n18_ := Aside0.mk ((ng_ hg BK121 : gb131 ≠ gb121)); clear HO107; clear HO110; clear HO115; clear HO120; clear HO124; clear HO129; clear BK101; clear BK102; clear BK121; clear HB; have HO107 := n0_; have HO110 := n1_; have HO115 := n2_; have HO120 := n3_; have HO124 := n4_; have HO129 := n5_; have BK101 := n6_; have BK102 := n7_; have BK121 := n8_; have HB := n9_; have BK131 := n10_; have GW131 := n11_; have GE131 := n12_; have NB101_131 := n13_; have NB131_101 := n14_; have NB102_131 := n15_; have NB131_102 := n16_; have NB121_131 := n17_; have NB131_121 := n18_; clear n0_ n1_ n2_ n3_ n4_ n5_ n6_ n7_ n8_ n9_ n10_ n11_ n12_ n13_ n14_ n15_ n16_ n17_ n18_; clear hb hbox hg; obtain ⟨Ao88, co88, eo88⟩ := Kd.S_slice HO124.out; subst eo88; have hnb89 := NB131_101.out; have hnc89 := NB101_131.out; have hnb90 := NB131_102.out; have hnc90 := NB102_131.out; have hnb91 := NB131_121.out; have hnc91 := NB121_131.out; obtain ⟨hcz92_0, hcz92_1, hcz92_2, hcz92_3, hcz92_4, hfz92_0, hfz92_1, hfz92_2, hfz92_3, hfz92_4⟩ := Qbe BK131.out; obtain ⟨Ao93, co93, eo93⟩ := Kd.R_slice HO129.out; subst eo93; obtain ⟨hcz94_0, hfz94_0⟩ := QbM BK121.out) | ((with_reducible refine Qal (f := 37) rfl ?_); refine QaU (some 31) rfl rfl Try.func37 (by kernel_rfl) rfl #[.agg #[.slice Ao81 t118.length co81], .agg #[.slice Ao88 t122.length co88, .int .i64 t125, .int .i64 t126, .slice Ao93 t127.length co93, .int .i64 t130]] rfl (by (try simp only [List.map_toArray, List.map_cons, List.map_nil]); first | done | rfl | (simp only [List.length_drop, List.length_take]; rfl)) ?_; (with_reducible refine (Qak.calls k _ _ t118 _ _ t122 t125 t126 _ _ t127 t130 t132 _ ?side1 ?side2 ?side3 ?side4 ?side5 ?side6 A24.out).mono ?_); (case side1 => refine (Kd.S_reads' (e := 34) (base := w.heap.size) (ok := fun k_ => (True ∧ some k_ ≠ (.slice Ao74 t105.length co74 : Value).ownBlock)) (n := t118.length) (c := co81) ?_).2.2; exact (by (refine Qbo ?_); exact (Kd.S_mono (Kd.S_far (p := ⟨gb131, 4, none⟩) (Kd.S_far (p := ⟨gb131, 3, none⟩) (Kd.S_far (p := ⟨gb131, 2, none⟩) (Kd.S_far (p := ⟨gb131, 1, none⟩) (Kd.S_far (p := ⟨gb131, 0, none⟩) (Kd.S_types HO120.out BK131.out (by decide)) (fun _ hk => hk.2) (.slice Ao88 t122.length co88)) (fun _ hk => hk.2) (.int .i64 t125)) (fun _ hk => hk.2) (.int .i64 t126)) (fun _ hk => hk.2) (.slice Ao93 t127.length co93)) (fun _ hk => hk.2) (.int .i64 t130)) (fun _ h_ => h_.1)))); (case side2 => exact (Kd.S_reads' HO120.out).2.1); (case side3 => refine (Kd.S_reads' (e := 67) (base := w.heap.size) (ok := fun k_ => ((some k_ ≠ (.slice Ao93 t127.length co93 : Value).ownBlock ∧ some k_ ≠ (.slice Ao75 t108.length co75 : Value).ownBlock) ∧ some k_ ≠ (.slice Ao76 t113.length co76 : Value).ownBlock)) (n := t122.length) (c := co88) ?_).2.2; exact (by (refine Qbo ?_); exact (Kd.S_mono (Kd.S_far (p := ⟨gb131, 4, none⟩) (Kd.S_far (p := ⟨gb131, 3, none⟩) (Kd.S_far (p := ⟨gb131, 2, none⟩) (Kd.S_far (p := ⟨gb131, 1, none⟩) (Kd.S_far (p := ⟨gb131, 0, none⟩) (Kd.S_types HO124.out BK131.out (by decide)) (fun _ hk => hk.2) (.slice Ao88 t122.length co88)) (fun _ hk => hk.2) (.int .i64 t125)) (fun _ hk => hk.2) (.int .i64 t126)) (fun _ hk => hk.2) (.slice Ao93 t127.length co93)) (fun _ hk => hk.2) (.int .i64 t130)) (fun _ h_ => h_.1)))); (case side4 => exact (Kd.S_reads' HO124.out).2.1); (case side5 => refine (Kd.R_reads' (e := 104) (base := w.heap.size) (ok := fun k_ => (True ∧ some k_ ≠ (.slice Ao76 t113.length co76 : Value).ownBlock)) (n := t127.length) (c := co93) ?_).2.2; exact (by (refine QbI ?_); exact (Kd.R_mono (Kd.R_far (p := ⟨gb131, 4, none⟩) (Kd.R_far (p := ⟨gb131, 3, none⟩) (Kd.R_far (p := ⟨gb131, 2, none⟩) (Kd.R_far (p := ⟨gb131, 1, none⟩) (Kd.R_far (p := ⟨gb131, 0, none⟩) (Kd.R_types HO129.out BK131.out (by decide)) (fun _ hk => hk.2) (.slice Ao88 t122.length co88)) (fun _ hk => hk.2) (.int .i64 t125)) (fun _ hk => hk.2) (.int .i64 t126)) (fun _ hk => hk.2) (.slice Ao93 t127.length co93)) (fun _ hk => hk.2) (.int .i64 t130)) (fun _ h_ => h_.1)))); (case side6 => exact (Kd.R_reads' HO129.out).2.1); rintro e w95 ⟨rfl, hb⟩; refine ⟨_, rfl, ?_⟩; have n0_ := Aside0.mk (Kd.S_below (by (refine Qbo ?_); exact (Kd.S_mono (Kd.S_far (p := ⟨gb131, 4, none⟩) (Kd.S_far (p := ⟨gb131, 3, none⟩) (Kd.S_far (p := ⟨gb131, 2, none⟩) (Kd.S_far (p := ⟨gb131, 1, none⟩) (Kd.S_far (p := ⟨gb131, 0, none⟩) (Kd.S_types HO107.out BK131.out (by decide)) (fun _ hk => hk.2) (.slice Ao88 t122.length co88)) (fun _ hk => hk.2) (.int .i64 t125)) (fun _ hk => hk.2) (.int .i64 t126)) (fun _ hk => hk.2) (.slice Ao93 t127.length co93)) (fun _ hk => hk.2) (.int .i64 t130)) (fun _ h_ => h_.1))) hb); have n1_ := Aside0.mk (Kd.S_below (by (refine Qbo ?_); exact (Kd.S_mono (Kd.S_far (p := ⟨gb131, 4, none⟩) (Kd.S_far (p := ⟨gb131, 3, none⟩) (Kd.S_far (p := ⟨gb131, 2, none⟩) (Kd.S_far (p := ⟨gb131, 1, none⟩) (Kd.S_far (p := ⟨gb131, 0, none⟩) (Kd.S_types HO110.out BK131.out (by decide)) (fun _ hk => hk.2) (.slice Ao88 t122.length co88)) (fun _ hk => hk.2) (.int .i64 t125)) (fun _ hk => hk.2) (.int .i64 t126)) (fun _ hk => hk.2) (.slice Ao93 t127.length co93)) (fun _ hk => hk.2) (.int .i64 t130)) (fun _ h_ => h_.1))) hb); have n2_ := Aside0.mk (Kd.R_below (by (refine QbI ?_); exact (Kd.R_mono (Kd.R_far (p := ⟨gb131, 4, none⟩) (Kd.R_far (p := ⟨gb131, 3, none⟩) (Kd.R_far (p := ⟨gb131, 2, none⟩) (Kd.R_far (p := ⟨gb131, 1, none⟩) (Kd.R_far (p := ⟨gb131, 0, none⟩) (Kd.R_types HO115.out BK131.out (by decide)) (fun _ hk => hk.2) (.slice Ao88 t122.length co88)) (fun _ hk => hk.2) (.int .i64 t125)) (fun _ hk => hk.2) (.int .i64 t126)) (fun _ hk => hk.2) (.slice Ao93 t127.length co93)) (fun _ hk => hk.2) (.int .i64 t130)) (fun _ h_ => h_.1))) hb); have n3_ := Aside0.mk (Kd.S_below (by (refine Qbo ?_); exact (Kd.S_mono (Kd.S_far (p := ⟨gb131, 4, none⟩) (Kd.S_far (p := ⟨gb131, 3, none⟩) (Kd.S_far (p := ⟨gb131, 2, none⟩) (Kd.S_far (p := ⟨gb131, 1, none⟩) (Kd.S_far (p := ⟨gb131, 0, none⟩) (Kd.S_types HO120.out BK131.out (by decide)) (fun _ hk => hk.2) (.slice Ao88 t122.length co88)) (fun _ hk => hk.2) (.int .i64 t125)) (fun _ hk => hk.2) (.int .i64 t126)) (fun _ hk => hk.2) (.slice Ao93 t127.length co93)) (fun _ hk => hk.2) (.int .i64 t130)) (fun _ h_ => h_.1))) hb); have n4_ := Aside0.mk (Kd.S_below (by (refine Qbo ?_); exact (Kd.S_mono (Kd.S_far (p := ⟨gb131, 4, none⟩) (Kd.S_far (p := ⟨gb131, 3, none⟩) (Kd.S_far (p := ⟨gb131, 2, none⟩) (Kd.S_far (p := ⟨gb131, 1, none⟩) (Kd.S_far (p := ⟨gb131, 0, none⟩) (Kd.S_types HO124.out BK131.out (by decide)) (fun _ hk => hk.2) (.slice Ao88 t122.length co88)) (fun _ hk => hk.2) (.int .i64 t125)) (fun _ hk => hk.2) (.int .i64 t126)) (fun _ hk => hk.2) (.slice Ao93 t127.length co93)) (fun _ hk => hk.2) (.int .i64 t130)) (fun _ h_ => h_.1))) hb); have n5_ := Aside0.mk (Kd.R_below (by (refine QbI ?_); exact (Kd.R_mono (Kd.R_far (p := ⟨gb131, 4, none⟩) (Kd.R_far (p := ⟨gb131, 3, none⟩) (Kd.R_far (p := ⟨gb131, 2, none⟩) (Kd.R_far (p := ⟨gb131, 1, none⟩) (Kd.R_far (p := ⟨gb131, 0, none⟩) (Kd.R_types HO129.out BK131.out (by decide)) (fun _ hk => hk.2) (.slice Ao88 t122.length co88)) (fun _ hk => hk.2) (.int .i64 t125)) (fun _ hk => hk.2) (.int .i64 t126)) (fun _ hk => hk.2) (.slice Ao93 t127.length co93)) (fun _ hk => hk.2) (.int .i64 t130)) (fun _ h_ => h_.1))) hb); have n6_ := Aside0.mk (QaV (g := gb101) (o := .cells #[.slice A0_0 l0_0.length c0_0] 41 (0, 0)) (by (refine kb_ ?_); refine Qar ?_ NB101_131.out _; (refine kb_ ?_); refine Qar ?_ NB101_131.out _; (refine kb_ ?_); refine Qar ?_ NB101_131.out _; (refine kb_ ?_); refine Qar ?_ NB101_131.out _; (refine kb_ ?_); refine Qar ?_ NB101_131.out _; (refine kb_ ?_); exact BK101.out) hb); have n7_ := Aside0.mk (QaV (g := gb102) (o := .cells #[.slice A1_0 l1_0.length c1_0, .int .i64 a1_1, .int .i64 a1_2, .slice A1_3 l1_3.length c1_3, .int .i64 a1_4] 61 (0, 0)) (by (refine kb_ ?_); refine Qar ?_ NB102_131.out _; (refine kb_ ?_); refine Qar ?_ NB102_131.out _; (refine kb_ ?_); refine Qar ?_ NB102_131.out _; (refine kb_ ?_); refine Qar ?_ NB102_131.out _; (refine kb_ ?_); refine Qar ?_ NB102_131.out _; (refine kb_ ?_); exact BK102.out) hb); have n8_ := Aside0.mk (QaV (g := gb121) (o := .cells #[.slice Ao81 t118.length co81] 25 (0, 0)) (by (refine kb_ ?_); refine Qar ?_ NB121_131.out _; (refine kb_ ?_); refine Qar ?_ NB121_131.out _; (refine kb_ ?_); refine Qar ?_ NB121_131.out _; (refine kb_ ?_); refine Qar ?_ NB121_131.out _; (refine kb_ ?_); refine Qar ?_ NB121_131.out _; (refine kb_ ?_); exact BK121.out) hb); have n9_ := Aside0.mk (QaV (g := gb131) (o := .cells #[.slice Ao88 t122.length co88, .int .i64 t125, .int .i64 t126, .slice Ao93 t127.length co93, .int .i64 t130] 46 (0, 0)) (by (refine kb_ ?_); refine Qa1 (cs := #[.slice Ao88 t122.length co88, .int .i64 t125, .int .i64 t126, .slice Ao93 t127.length co93, .int .i64 0]) ?_ 4 _ rfl; (refine kb_ ?_); refine Qa1 (cs := #[.slice Ao88 t122.length co88, .int .i64 t125, .int .i64 t126, .slice none 0 0, .int .i64 0]) ?_ 3 _ rfl; (refine kb_ ?_); refine Qa1 (cs := #[.slice Ao88 t122.length co88, .int .i64 t125, .int .i64 0, .slice none 0 0, .int .i64 0]) ?_ 2 _ rfl; (refine kb_ ?_); refine Qa1 (cs := #[.slice Ao88 t122.length co88, .int .i64 0, .int .i64 0, .slice none 0 0, .int .i64 0]) ?_ 1 _ rfl; (refine kb_ ?_); refine Qa1 (cs := #[.slice none 0 0, .int .i64 0, .int .i64 0, .slice none 0 0, .int .i64 0]) ?_ 0 _ rfl; (refine kb_ ?_); exact BK131.out) hb); have n10_ := Aside0.mk (Qac (bw_) hb); clear HO107; clear HO110; clear HO115; clear HO120; clear HO124; clear HO129; clear BK101; clear BK102; clear BK121; clear BK131; clear HB; have HO107 := n0_; have HO110 := n1_; have HO115 := n2_; have HO120 := n3_; have HO124 := n4_; have HO129 := n5_; have BK101 := n6_; have BK102 := n7_; have BK121 := n8_; have BK131 := n9_; have HB := n10_; clear n0_ n1_ n2_ n3_ n4_ n5_ n6_ n7_ n8_ n9_ n10_; (try clear hb); (try clear hb2); (try clear hk); (try clear hi)))
           have n0_ := Aside0.mk (Kd.S_drew HO107.out)
           have n1_ := Aside0.mk (Kd.S_drew HO110.out)
           have n2_ := Aside0.mk (Kd.R_drew HO115.out)
           have n3_ := Aside0.mk (Kd.S_drew HO120.out)
           have n4_ := Aside0.mk (Kd.S_drew HO124.out)
           have n5_ := Aside0.mk (Kd.R_drew HO129.out)
           have n6_ := Aside0.mk (Qa2 BK101.out)
           have n7_ := Aside0.mk (Qa2 BK102.out)
           have n8_ := Aside0.mk (Qa2 BK121.out)
           have n9_ := Aside0.mk (Qa2 BK131.out)
           have n10_ := Aside0.mk (Qa7 HB.out)
           clear HO107
           clear HO110
           clear HO115
           clear HO120
           clear HO124
           clear HO129
           clear BK101
           clear BK102
           clear BK121
           clear BK131
           clear HB
           have HO107 := n0_
           have HO110 := n1_
           have HO115 := n2_
           have HO120 := n3_
           have HO124 := n4_
           have HO129 := n5_
           have BK101 := n6_
           have BK102 := n7_
           have BK121 := n8_
           have BK131 := n9_
           have HB := n10_
           clear n0_ n1_ n2_ n3_ n4_ n5_ n6_ n7_ n8_ n9_ n10_
           refine QbP (n := 5) (S := fun w' => w'.cell? ⟨gb121, 0, none⟩ = some (.slice Ao81 t118.length co81) ∧ w'.cell? ⟨gb101, 0, none⟩ = some (.slice A0_0 l0_0.length c0_0)) (ds := []) #[false, false, false, false, false] (by kernel_rfl) rfl rfl ⟨(Qab BK121.out 0).trans rfl, (Qab BK101.out 0).trans rfl⟩ (fun hHeld => ?_)
           generalize w95.drew = w96 at HO107 HO110 HO115 HO120 HO124 HO129 BK101 BK102 BK121 BK131 HB hHeld ⊢
           refine tk_ 0 (some 35) #[true, false, false, false, false] rfl rfl hHeld ?_
           refine tk_ 1 (some 36) #[true, true, false, false, false] rfl rfl hHeld ?_
           refine Qcx (i := 2) (N := some 37) #[true, true, true, false, false] rfl rfl (by kernel_rfl) (by decide) (fun K hK => ?_)
           refine QbL Try.func28 (by kernel_rfl) rfl #[.agg #[.slice A0_0 l0_0.length c0_0]] (by rfl) rfl rfl (by (try simp only [List.map_toArray, List.map_cons, List.map_nil]); first | done | rfl | (simp only [List.length_drop, List.length_take]; rfl)) ?_
           with_reducible refine (QaT.calls k _ _ l0_0 t133 _ ?side1 ?side2 A58.out).mono ?_
           (case side1 => exact cb_)
           (case side2 => exact HC0_0.out)
           rintro e w97 ⟨v134, rfl, ho0, hb⟩
           refine ⟨_, rfl, ?_⟩
           have n0_ := Aside0.mk (Kd.S_elder' (by (refine Qbo ?_); exact HO107.out) (Kd.S_base ho0) hb)
           have n1_ := Aside0.mk (Kd.S_below (by (refine Qbo ?_); exact HO110.out) hb)
           have n2_ := Aside0.mk (Kd.R_below (by (refine QbI ?_); exact HO115.out) hb)
           have n3_ := Aside0.mk (Kd.S_elder' (by (refine Qbo ?_); exact HO120.out) (Kd.S_base ho0) hb)
           have n4_ := Aside0.mk (Kd.S_below (by (refine Qbo ?_); exact HO124.out) hb)
           have n5_ := Aside0.mk (Kd.R_below (by (refine QbI ?_); exact HO129.out) hb)
           have n6_ := Aside0.mk (Kd.S_lower (Kd.S_new' (Kd.S_new' ho0 (Kd.S_lt (by (refine Qbo ?_); exact HO107.out))) (Kd.S_lt (by (refine Qbo ?_); exact HO120.out))) (QaE (bw_)))
           have n7_ := Aside0.mk (bb_ BK101 hb)
           have n8_ := Aside0.mk (bb_ BK102 hb)
           have n9_ := Aside0.mk (bb_ BK121 hb)
           have n10_ := Aside0.mk (bb_ BK131 hb)
           have n11_ := Aside0.mk (Qac (bw_) hb)
           clear HO107
           clear HO110
           clear HO115
           clear HO120
           clear HO124
           clear HO129
           clear BK101
           clear BK102
           clear BK121
           clear BK131
           clear HB
           have HO107 := n0_
           have HO110 := n1_
           have HO115 := n2_
           have HO120 := n3_
           have HO124 := n4_
           have HO129 := n5_
           have HO135 := n6_
           have BK101 := n7_
           have BK102 := n8_
           have BK121 := n9_
           have BK131 := n10_
           have HB := n11_
           clear n0_ n1_ n2_ n3_ n4_ n5_ n6_ n7_ n8_ n9_ n10_ n11_
           (try clear hb)
           (try clear hb2)
           (try clear hk)
           (try clear hi)
           (try clear ho0)
           obtain ⟨Ao98, co98, eo98⟩ := Kd.S_slice HO135.out
           (first | subst eo98 | (injection eo98 with f1_ f2_ f3_; have f4_ := f1_.symm; have f5_ := f3_.symm; clear f1_ f2_ f3_; subst f4_; subst f5_))
           refine hK.out _ _ ⟨(Qab BK121.out 0).trans rfl, (Qab BK101.out 0).trans rfl⟩ (fun hHeld => ?_)
           clear hK K
           refine QbK (a' := ?_) ?_ ?_
           rotate_left
           · show Act.put _ (some 37) _ = _
             simp only [Act.put, List.setIfInBounds_toArray, List.set_cons_zero, List.set_cons_succ, QbA, QbB]
             rfl
           refine Qcx (i := 3) (N := some 38) #[true, true, true, true, false] rfl rfl (by kernel_rfl) (by decide) (fun K hK => ?_)
           refine QbL Try.func31 (by kernel_rfl) rfl #[.agg #[.slice Ao81 t118.length co81], .agg #[.slice Ao98 t133.length co98]] (by rfl) rfl rfl (by (try simp only [List.map_toArray, List.map_cons, List.map_nil]); first | done | rfl | (simp only [List.length_drop, List.length_take]; rfl)) ?_
           with_reducible refine (Qbj.calls k _ _ t118 _ _ t133 true _ ?side1 ?side2 ?side3 ?side4 A59.out).mono ?_
           (case side1 => repeat (first | exact (Kd.S_reads' HO120.out).2.2 | (with_reducible refine Kd.C_alloc ?_ _) | (with_reducible refine Kd.C_drewN ?_ _) | (with_reducible refine Kd.C_drew ?_)))
           (case side2 => exact (Kd.S_reads' HO120.out).2.1)
           (case side3 => repeat (first | exact (Kd.S_reads' HO135.out).2.2 | (with_reducible refine Kd.C_alloc ?_ _) | (with_reducible refine Kd.C_drewN ?_ _) | (with_reducible refine Kd.C_drew ?_)))
           (case side4 => exact (Kd.S_reads' HO135.out).2.1)
           rintro e w99 ⟨rfl, hb⟩
           refine ⟨_, rfl, ?_⟩
           have n0_ := Aside0.mk (Kd.S_below (by (refine Qbo ?_); exact HO107.out) hb)
           have n1_ := Aside0.mk (Kd.S_below (by (refine Qbo ?_); exact HO110.out) hb)
           have n2_ := Aside0.mk (Kd.R_below (by (refine QbI ?_); exact HO115.out) hb)
           have n3_ := Aside0.mk (Kd.S_below (by (refine Qbo ?_); exact HO120.out) hb)
           have n4_ := Aside0.mk (Kd.S_below (by (refine Qbo ?_); exact HO124.out) hb)
           have n5_ := Aside0.mk (Kd.R_below (by (refine QbI ?_); exact HO129.out) hb)
           have n6_ := Aside0.mk (Kd.S_below (by (refine Qbo ?_); exact HO135.out) hb)
           have n7_ := Aside0.mk (bb_ BK101 hb)
           have n8_ := Aside0.mk (bb_ BK102 hb)
           have n9_ := Aside0.mk (bb_ BK121 hb)
           have n10_ := Aside0.mk (bb_ BK131 hb)
           have n11_ := Aside0.mk (Qac (bw_) hb)
           clear HO107
           clear HO110
           clear HO115
           clear HO120
           clear HO124
           clear HO129
           clear HO135
           clear BK101
           clear BK102
           clear BK121
           clear BK131
           clear HB
           have HO107 := n0_
           have HO110 := n1_
           have HO115 := n2_
           have HO120 := n3_
           have HO124 := n4_
           have HO129 := n5_
           have HO135 := n6_
           have BK101 := n7_
           have BK102 := n8_
           have BK121 := n9_
           have BK131 := n10_
           have HB := n11_
           clear n0_ n1_ n2_ n3_ n4_ n5_ n6_ n7_ n8_ n9_ n10_ n11_
           (try clear hb)
           (try clear hb2)
           (try clear hk)
           (try clear hi)
           refine hK.out _ _ ⟨(Qab BK121.out 0).trans rfl, (Qab BK101.out 0).trans rfl⟩ (fun hHeld => ?_)
           clear hK K
           refine QbK (a' := ?_) ?_ ?_
           rotate_left
           · show Act.put _ (some 38) _ = _
             simp only [Act.put, List.setIfInBounds_toArray, List.set_cons_zero, List.set_cons_succ, QbA, QbB]
             rfl
           refine pu_ 4 (some 39) #[true, true, true, true, true] rfl rfl ?_
           refine Qcc (by kernel_rfl) ?_
           try go_wp2
           have n0_ := Aside0.mk (Kd.S_drew HO107.out)
           have n1_ := Aside0.mk (Kd.S_drew HO110.out)
           have n2_ := Aside0.mk (Kd.R_drew HO115.out)
           have n3_ := Aside0.mk (Kd.S_drew HO120.out)
           have n4_ := Aside0.mk (Kd.S_drew HO124.out)
           have n5_ := Aside0.mk (Kd.R_drew HO129.out)
           have n6_ := Aside0.mk (Kd.S_drew HO135.out)
           have n7_ := Aside0.mk (Qa2 BK101.out)
           have n8_ := Aside0.mk (Qa2 BK102.out)
           have n9_ := Aside0.mk (Qa2 BK121.out)
           have n10_ := Aside0.mk (Qa2 BK131.out)
           have n11_ := Aside0.mk (Qa7 HB.out)
           clear HO107
           clear HO110
           clear HO115
           clear HO120
           clear HO124
           clear HO129
           clear HO135
           clear BK101
           clear BK102
           clear BK121
           clear BK131
           clear HB
           have HO107 := n0_
           have HO110 := n1_
           have HO115 := n2_
           have HO120 := n3_
           have HO124 := n4_
           have HO129 := n5_
           have HO135 := n6_
           have BK101 := n7_
           have BK102 := n8_
           have BK121 := n9_
           have BK131 := n10_
           have HB := n11_
           clear n0_ n1_ n2_ n3_ n4_ n5_ n6_ n7_ n8_ n9_ n10_ n11_
           refine QbP (n := 5) (S := fun w' => w'.cell? ⟨gb131, 0, none⟩ = some (.slice Ao88 t122.length co88) ∧ w'.cell? ⟨gb131, 1, none⟩ = some (.int .i64 t125) ∧ w'.cell? ⟨gb131, 2, none⟩ = some (.int .i64 t126) ∧ w'.cell? ⟨gb131, 3, none⟩ = some (.slice Ao93 t127.length co93) ∧ w'.cell? ⟨gb131, 4, none⟩ = some (.int .i64 t130) ∧ w'.cell? ⟨gb102, 0, none⟩ = some (.slice A1_0 l1_0.length c1_0) ∧ w'.cell? ⟨gb102, 1, none⟩ = some (.int .i64 a1_1) ∧ w'.cell? ⟨gb102, 2, none⟩ = some (.int .i64 a1_2) ∧ w'.cell? ⟨gb102, 3, none⟩ = some (.slice A1_3 l1_3.length c1_3) ∧ w'.cell? ⟨gb102, 4, none⟩ = some (.int .i64 a1_4)) (ds := []) #[false, false, false, false, false] (by kernel_rfl) rfl rfl ⟨(Qab BK131.out 0).trans rfl, (Qab BK131.out 1).trans rfl, (Qab BK131.out 2).trans rfl, (Qab BK131.out 3).trans rfl, (Qab BK131.out 4).trans rfl, (Qab BK102.out 0).trans rfl, (Qab BK102.out 1).trans rfl, (Qab BK102.out 2).trans rfl, (Qab BK102.out 3).trans rfl, (Qab BK102.out 4).trans rfl⟩ (fun hHeld => ?_)
           generalize w99.drew = w100 at HO107 HO110 HO115 HO120 HO124 HO129 HO135 BK101 BK102 BK121 BK131 HB hHeld ⊢
           refine tk_ 0 (some 40) #[true, false, false, false, false] rfl rfl hHeld ?_
           refine tk_ 1 (some 41) #[true, true, false, false, false] rfl rfl hHeld ?_
           refine Qcx (i := 2) (N := some 42) #[true, true, true, false, false] rfl rfl (by kernel_rfl) (by decide) (fun K hK => ?_)
           refine QbL Try.func43 (by kernel_rfl) rfl #[.agg #[.slice A1_0 l1_0.length c1_0, .int .i64 a1_1, .int .i64 a1_2, .slice A1_3 l1_3.length c1_3, .int .i64 a1_4]] (by rfl) rfl rfl (by (try simp only [List.map_toArray, List.map_cons, List.map_nil]); first | done | rfl | (simp only [List.length_drop, List.length_take]; rfl)) ?_
           with_reducible refine (QaK.calls k _ _ l1_0 a1_1 a1_2 _ _ l1_3 a1_4 t137 t140 t141 t142 t145 _ ?side1 ?side2 ?side3 ?side4 A61.out).mono ?_
           (case side1 => exact cb_)
           (case side2 => exact HC1_0.out)
           (case side3 => exact cb_)
           (case side4 => exact HC1_3.out)
           rintro e w101 ⟨v138, v143, rfl, ho0, ho1, hb⟩
           refine ⟨_, rfl, ?_⟩
           have n0_ := Aside0.mk (Kd.S_below (by (refine Qbo ?_); exact HO107.out) hb)
           have n1_ := Aside0.mk (Kd.S_mono (Kd.S_told (Kd.S_told (Kd.S_old (by (refine Qbo ?_); exact HO110.out) hb) (Kd.S_base ho0)) (Kd.R_base ho1)) (fun _ h_ => h_.1))
           have n2_ := Aside0.mk (Kd.R_elder' (by (refine QbI ?_); exact HO115.out) (Kd.R_base ho1) hb)
           have n3_ := Aside0.mk (Kd.S_below (by (refine Qbo ?_); exact HO120.out) hb)
           have n4_ := Aside0.mk (Kd.S_mono (Kd.S_told (Kd.S_told (Kd.S_old (by (refine Qbo ?_); exact HO124.out) hb) (Kd.S_base ho0)) (Kd.R_base ho1)) (fun _ h_ => h_.1))
           have n5_ := Aside0.mk (Kd.R_elder' (by (refine QbI ?_); exact HO129.out) (Kd.R_base ho1) hb)
           have n6_ := Aside0.mk (Kd.S_below (by (refine Qbo ?_); exact HO135.out) hb)
           have n7_ := Aside0.mk (Kd.S_lower (Kd.S_new' (Kd.S_new' (Kd.S_new' (Kd.S_new' ho0 (Kd.S_lt (by (refine Qbo ?_); exact HO110.out))) (Kd.R_lt (by (refine QbI ?_); exact HO115.out))) (Kd.S_lt (by (refine Qbo ?_); exact HO124.out))) (Kd.R_lt (by (refine QbI ?_); exact HO129.out))) (QaE (bw_)))
           have n8_ := Aside0.mk (Kd.R_lower (Kd.R_new' (Kd.R_new' ho1 (Kd.R_lt (by (refine QbI ?_); exact HO115.out))) (Kd.R_lt (by (refine QbI ?_); exact HO129.out))) (QaE (bw_)))
           have n9_ := Aside0.mk (bb_ BK101 hb)
           have n10_ := Aside0.mk (bb_ BK102 hb)
           have n11_ := Aside0.mk (bb_ BK121 hb)
           have n12_ := Aside0.mk (bb_ BK131 hb)
           have n13_ := Aside0.mk (Qac (bw_) hb)
           clear HO107
           clear HO110
           clear HO115
           clear HO120
           clear HO124
           clear HO129
           clear HO135
           clear BK101
           clear BK102
           clear BK121
           clear BK131
           clear HB
           have HO107 := n0_
           have HO110 := n1_
           have HO115 := n2_
           have HO120 := n3_
           have HO124 := n4_
           have HO129 := n5_
           have HO135 := n6_
           have HO139 := n7_
           have HO144 := n8_
           have BK101 := n9_
           have BK102 := n10_
           have BK121 := n11_
           have BK131 := n12_
           have HB := n13_
           clear n0_ n1_ n2_ n3_ n4_ n5_ n6_ n7_ n8_ n9_ n10_ n11_ n12_ n13_
           (try clear hb)
           (try clear hb2)
           (try clear hk)
           (try clear hi)
           (try clear ho0)
           (try clear ho1)
           obtain ⟨Ao102, co102, eo102⟩ := Kd.S_slice HO139.out
           (first | subst eo102 | (injection eo102 with f1_ f2_ f3_; have f4_ := f1_.symm; have f5_ := f3_.symm; clear f1_ f2_ f3_; subst f4_; subst f5_))
           obtain ⟨Ao103, co103, eo103⟩ := Kd.R_slice HO144.out
           (first | subst eo103 | (injection eo103 with f1_ f2_ f3_; have f4_ := f1_.symm; have f5_ := f3_.symm; clear f1_ f2_ f3_; subst f4_; subst f5_))
           refine hK.out _ _ ⟨(Qab BK131.out 0).trans rfl, (Qab BK131.out 1).trans rfl, (Qab BK131.out 2).trans rfl, (Qab BK131.out 3).trans rfl, (Qab BK131.out 4).trans rfl, (Qab BK102.out 0).trans rfl, (Qab BK102.out 1).trans rfl, (Qab BK102.out 2).trans rfl, (Qab BK102.out 3).trans rfl, (Qab BK102.out 4).trans rfl⟩ (fun hHeld => ?_)
           clear hK K
           refine QbK (a' := ?_) ?_ ?_
           rotate_left
           · show Act.put _ (some 42) _ = _
             simp only [Act.put, List.setIfInBounds_toArray, List.set_cons_zero, List.set_cons_succ, QbA, QbB]
             rfl
           refine Qcx (i := 3) (N := some 43) #[true, true, true, true, false] rfl rfl (by kernel_rfl) (by decide) (fun K hK => ?_)
           refine QbL Try.func30 (by kernel_rfl) rfl #[.agg #[.slice Ao88 t122.length co88, .int .i64 t125, .int .i64 t126, .slice Ao93 t127.length co93, .int .i64 t130], .agg #[.slice Ao102 t137.length co102, .int .i64 t140, .int .i64 t141, .slice Ao103 t142.length co103, .int .i64 t145]] (by rfl) rfl rfl (by (try simp only [List.map_toArray, List.map_cons, List.map_nil]); first | done | rfl | (simp only [List.length_drop, List.length_take]; rfl)) ?_
           with_reducible refine (Qbf.calls k _ _ t122 t125 t126 _ _ t127 t130 _ _ t137 t140 t141 _ _ t142 t145 true _ ?side1 ?side2 ?side3 ?side4 ?side5 ?side6 ?side7 ?side8 A62.out).mono ?_
           (case side1 => repeat (first | exact (Kd.S_reads' HO124.out).2.2 | (with_reducible refine Kd.C_alloc ?_ _) | (with_reducible refine Kd.C_drewN ?_ _) | (with_reducible refine Kd.C_drew ?_)))
           (case side2 => exact (Kd.S_reads' HO124.out).2.1)
           (case side3 => repeat (first | exact (Kd.R_reads' HO129.out).2.2 | (with_reducible refine Kd.C_alloc ?_ _) | (with_reducible refine Kd.C_drewN ?_ _) | (with_reducible refine Kd.C_drew ?_)))
           (case side4 => exact (Kd.R_reads' HO129.out).2.1)
           (case side5 => repeat (first | exact (Kd.S_reads' HO139.out).2.2 | (with_reducible refine Kd.C_alloc ?_ _) | (with_reducible refine Kd.C_drewN ?_ _) | (with_reducible refine Kd.C_drew ?_)))
           (case side6 => exact (Kd.S_reads' HO139.out).2.1)
           (case side7 => repeat (first | exact (Kd.R_reads' HO144.out).2.2 | (with_reducible refine Kd.C_alloc ?_ _) | (with_reducible refine Kd.C_drewN ?_ _) | (with_reducible refine Kd.C_drew ?_)))
           (case side8 => exact (Kd.R_reads' HO144.out).2.1)
           rintro e w104 ⟨rfl, hb⟩
           refine ⟨_, rfl, ?_⟩
           have n0_ := Aside0.mk (Kd.S_below (by (refine Qbo ?_); exact HO107.out) hb)
           have n1_ := Aside0.mk (Kd.S_below (by (refine Qbo ?_); exact HO110.out) hb)
           have n2_ := Aside0.mk (Kd.R_below (by (refine QbI ?_); exact HO115.out) hb)
           have n3_ := Aside0.mk (Kd.S_below (by (refine Qbo ?_); exact HO120.out) hb)
           have n4_ := Aside0.mk (Kd.S_below (by (refine Qbo ?_); exact HO124.out) hb)
           have n5_ := Aside0.mk (Kd.R_below (by (refine QbI ?_); exact HO129.out) hb)
           have n6_ := Aside0.mk (Kd.S_below (by (refine Qbo ?_); exact HO135.out) hb)
           have n7_ := Aside0.mk (Kd.S_below (by (refine Qbo ?_); exact HO139.out) hb)
           have n8_ := Aside0.mk (Kd.R_below (by (refine QbI ?_); exact HO144.out) hb)
           have n9_ := Aside0.mk (bb_ BK101 hb)
           have n10_ := Aside0.mk (bb_ BK102 hb)
           have n11_ := Aside0.mk (bb_ BK121 hb)
           have n12_ := Aside0.mk (bb_ BK131 hb)
           have n13_ := Aside0.mk (Qac (bw_) hb)
           clear HO107
           clear HO110
           clear HO115
           clear HO120
           clear HO124
           clear HO129
           clear HO135
           clear HO139
           clear HO144
           clear BK101
           clear BK102
           clear BK121
           clear BK131
           clear HB
           have HO107 := n0_
           have HO110 := n1_
           have HO115 := n2_
           have HO120 := n3_
           have HO124 := n4_
           have HO129 := n5_
           have HO135 := n6_
           have HO139 := n7_
           have HO144 := n8_
           have BK101 := n9_
           have BK102 := n10_
           have BK121 := n11_
           have BK131 := n12_
           have HB := n13_
           clear n0_ n1_ n2_ n3_ n4_ n5_ n6_ n7_ n8_ n9_ n10_ n11_ n12_ n13_
           (try clear hb)
           (try clear hb2)
           (try clear hk)
           (try clear hi)
           refine hK.out _ _ ⟨(Qab BK131.out 0).trans rfl, (Qab BK131.out 1).trans rfl, (Qab BK131.out 2).trans rfl, (Qab BK131.out 3).trans rfl, (Qab BK131.out 4).trans rfl, (Qab BK102.out 0).trans rfl, (Qab BK102.out 1).trans rfl, (Qab BK102.out 2).trans rfl, (Qab BK102.out 3).trans rfl, (Qab BK102.out 4).trans rfl⟩ (fun hHeld => ?_)
           clear hK K
           refine QbK (a' := ?_) ?_ ?_
           rotate_left
           · show Act.put _ (some 43) _ = _
             simp only [Act.put, List.setIfInBounds_toArray, List.set_cons_zero, List.set_cons_succ, QbA, QbB]
             rfl
           refine pu_ 4 (some 44) #[true, true, true, true, true] rfl rfl ?_
           refine Qcc (by kernel_rfl) ?_
           try go_wp2
           go_ret
           exact ⟨by first | rfl | (simp [Qaf, Qag] <;> rfl) | (simp [*, Qaf, Qag] <;> rfl), bw_⟩
         · replace c63 := Bool.eq_false_iff.mpr c63
           subst c63
           have H1 : (some false) = some r := by rw [if_neg (show ¬ (false = true) by decide)] at H; exact H
           clear H
           have H := H1
           clear H1
           obtain rfl := Option.some.inj H
           go_enter Try.func8, Try.ntmps8
           try go_wp2_with (first | ((with_reducible refine Qaq (N := 2) rfl ?_); refine Qam ?hg (N := 2) ?hd (cs := #[.slice A0_0 l0_0.length c0_0]) (t := 41) ?hr ?_; (case hd => rfl); (case hg => rfl); (case hr => first | (go_simp; done) | (go_simp; rfl)); intro gb101 hg w105 hbox hb; have n0_ := Aside0.mk (Qac (bw_) hb); have n1_ := Aside0.mk (hbox); have n2_ := Aside0.mk ((gs_ hg bw_ : w.heap.size ≤ gb101)); have n3_ := Aside0.mk ((gs_ hg bw_ : w.heap.size ≤ gb101)); clear HB; have HB := n0_; have BK101 := n1_; have GW101 := n2_; have GE101 := n3_; clear n0_ n1_ n2_ n3_; clear hb hbox hg) | ((with_reducible refine Qaq (N := 3) rfl ?_); refine Qam ?hg (N := 3) ?hd (cs := #[.slice A1_0 l1_0.length c1_0, .int .i64 a1_1, .int .i64 a1_2, .slice A1_3 l1_3.length c1_3, .int .i64 a1_4]) (t := 61) ?hr ?_; (case hd => rfl); (case hg => rfl); (case hr => first | (go_simp; done) | (go_simp; rfl)); intro gb102 hg w106 hbox hb; have n0_ := Aside0.mk (bb_ BK101 hb); have n1_ := Aside0.mk (Qac (bw_) hb); have n2_ := Aside0.mk (hbox); have n3_ := Aside0.mk ((gs_ hg bw_ : w.heap.size ≤ gb102)); have n4_ := Aside0.mk ((gs_ hg bw_ : w.heap.size ≤ gb102)); have n5_ := Aside0.mk ((nl_ hg BK101 : gb101 ≠ gb102)); have n6_ := Aside0.mk ((ng_ hg BK101 : gb102 ≠ gb101)); clear BK101; clear HB; have BK101 := n0_; have HB := n1_; have BK102 := n2_; have GW102 := n3_; have GE102 := n4_; have NB101_102 := n5_; have NB102_101 := n6_; clear n0_ n1_ n2_ n3_ n4_ n5_ n6_; clear hb hbox hg; have hnb107 := NB101_102.out; have hnc107 := NB102_101.out; obtain ⟨hcz108_0, hfz108_0⟩ := QbM BK101.out) | ((with_reducible refine Qal (f := 26) rfl ?_); refine QaU (some 12) rfl rfl Try.func26 (by kernel_rfl) rfl #[.agg #[.slice A0_0 l0_0.length c0_0], .int .i64 1048576] rfl (by (try simp only [List.map_toArray, List.map_cons, List.map_nil]); first | done | rfl | (simp only [List.length_drop, List.length_take]; rfl)) ?_; (with_reducible refine (Qbs.calls k _ _ l0_0 1048576 t103 _ ?side1 ?side2 A3.out).mono ?_); (case side1 => exact cb_); (case side2 => exact HC0_0.out); rintro e w109 ⟨rfl, hb⟩; refine ⟨_, rfl, ?_⟩; have n0_ := Aside0.mk (bb_ BK101 hb); have n1_ := Aside0.mk (bb_ BK102 hb); have n2_ := Aside0.mk (Qac (bw_) hb); clear BK101; clear BK102; clear HB; have BK101 := n0_; have BK102 := n1_; have HB := n2_; clear n0_ n1_ n2_; (try clear hb); (try clear hb2); (try clear hk); (try clear hi); obtain ⟨hcz110_0, hcz110_1, hcz110_2, hcz110_3, hcz110_4, hfz110_0, hfz110_1, hfz110_2, hfz110_3, hfz110_4⟩ := Qbe BK102.out) | ((with_reducible refine Qal (f := 41) rfl ?_); refine QaU (some 17) rfl rfl Try.func41 (by kernel_rfl) rfl #[.agg #[.slice A1_0 l1_0.length c1_0, .int .i64 a1_1, .int .i64 a1_2, .slice A1_3 l1_3.length c1_3, .int .i64 a1_4], .int .i64 t103] rfl (by (try simp only [List.map_toArray, List.map_cons, List.map_nil]); first | done | rfl | (simp only [List.length_drop, List.length_take]; rfl)) ?_; (with_reducible refine (Qbr.calls k _ _ l1_0 a1_1 a1_2 _ _ l1_3 a1_4 t103 t104 _ ?side1 ?side2 ?side3 ?side4 A10.out).mono ?_); (case side1 => exact cb_); (case side2 => exact HC1_0.out); (case side3 => exact cb_); (case side4 => exact HC1_3.out); rintro e w111 ⟨rfl, hb⟩; refine ⟨_, rfl, ?_⟩; have n0_ := Aside0.mk (bb_ BK101 hb); have n1_ := Aside0.mk (bb_ BK102 hb); have n2_ := Aside0.mk (Qac (bw_) hb); clear BK101; clear BK102; clear HB; have BK101 := n0_; have BK102 := n1_; have HB := n2_; clear n0_ n1_ n2_; (try clear hb); (try clear hb2); (try clear hk); (try clear hi)))
           have n0_ := Aside0.mk (Qa2 BK101.out)
           have n1_ := Aside0.mk (Qa2 BK102.out)
           have n2_ := Aside0.mk (Qa7 HB.out)
           clear BK101
           clear BK102
           clear HB
           have BK101 := n0_
           have BK102 := n1_
           have HB := n2_
           clear n0_ n1_ n2_
           refine QbP (n := 6) (S := fun w' => w'.cell? ⟨gb101, 0, none⟩ = some (.slice A0_0 l0_0.length c0_0) ∧ w'.cell? ⟨gb102, 0, none⟩ = some (.slice A1_0 l1_0.length c1_0) ∧ w'.cell? ⟨gb102, 1, none⟩ = some (.int .i64 a1_1) ∧ w'.cell? ⟨gb102, 2, none⟩ = some (.int .i64 a1_2) ∧ w'.cell? ⟨gb102, 3, none⟩ = some (.slice A1_3 l1_3.length c1_3) ∧ w'.cell? ⟨gb102, 4, none⟩ = some (.int .i64 a1_4)) (ds := []) #[false, false, false, false, false, false] (by kernel_rfl) rfl rfl ⟨(Qab BK101.out 0).trans rfl, (Qab BK102.out 0).trans rfl, (Qab BK102.out 1).trans rfl, (Qab BK102.out 2).trans rfl, (Qab BK102.out 3).trans rfl, (Qab BK102.out 4).trans rfl⟩ (fun hHeld => ?_)
           generalize w111.drew = w112 at BK101 BK102 HB hHeld ⊢
           refine tk_ 0 (some 20) #[true, false, false, false, false, false] rfl rfl hHeld ?_
           refine tk_ 2 (some 22) #[true, false, true, false, false, false] rfl rfl hHeld ?_
           refine Qcx (i := 1) (N := some 21) #[true, true, true, false, false, false] rfl rfl (by kernel_rfl) (by decide) (fun K hK => ?_)
           refine QbL Try.func28 (by kernel_rfl) rfl #[.agg #[.slice A0_0 l0_0.length c0_0]] (by rfl) rfl rfl (by (try simp only [List.map_toArray, List.map_cons, List.map_nil]); first | done | rfl | (simp only [List.length_drop, List.length_take]; rfl)) ?_
           with_reducible refine (QaT.calls k _ _ l0_0 t105 _ ?side1 ?side2 A19.out).mono ?_
           (case side1 => exact cb_)
           (case side2 => exact HC0_0.out)
           rintro e w113 ⟨v106, rfl, ho0, hb⟩
           refine ⟨_, rfl, ?_⟩
           have n0_ := Aside0.mk (Kd.S_lower ho0 (QaE (bw_)))
           have n1_ := Aside0.mk (bb_ BK101 hb)
           have n2_ := Aside0.mk (bb_ BK102 hb)
           have n3_ := Aside0.mk (Qac (bw_) hb)
           clear BK101
           clear BK102
           clear HB
           have HO107 := n0_
           have BK101 := n1_
           have BK102 := n2_
           have HB := n3_
           clear n0_ n1_ n2_ n3_
           (try clear hb)
           (try clear hb2)
           (try clear hk)
           (try clear hi)
           (try clear ho0)
           refine hK.out _ _ ⟨(Qab BK101.out 0).trans rfl, (Qab BK102.out 0).trans rfl, (Qab BK102.out 1).trans rfl, (Qab BK102.out 2).trans rfl, (Qab BK102.out 3).trans rfl, (Qab BK102.out 4).trans rfl⟩ (fun hHeld => ?_)
           clear hK K
           refine QbK (a' := ?_) ?_ ?_
           rotate_left
           · show Act.put _ (some 21) _ = _
             simp only [Act.put, List.setIfInBounds_toArray, List.set_cons_zero, List.set_cons_succ, QbA, QbB]
             rfl
           refine Qcx (i := 3) (N := some 23) #[true, true, true, true, false, false] rfl rfl (by kernel_rfl) (by decide) (fun K hK => ?_)
           refine QbL Try.func43 (by kernel_rfl) rfl #[.agg #[.slice A1_0 l1_0.length c1_0, .int .i64 a1_1, .int .i64 a1_2, .slice A1_3 l1_3.length c1_3, .int .i64 a1_4]] (by rfl) rfl rfl (by (try simp only [List.map_toArray, List.map_cons, List.map_nil]); first | done | rfl | (simp only [List.length_drop, List.length_take]; rfl)) ?_
           with_reducible refine (QaK.calls k _ _ l1_0 a1_1 a1_2 _ _ l1_3 a1_4 t108 t111 t112 t113 t116 _ ?side1 ?side2 ?side3 ?side4 A20.out).mono ?_
           (case side1 => exact cb_)
           (case side2 => exact HC1_0.out)
           (case side3 => exact cb_)
           (case side4 => exact HC1_3.out)
           rintro e w114 ⟨v109, v114, rfl, ho0, ho1, hb⟩
           refine ⟨_, rfl, ?_⟩
           have n0_ := Aside0.mk (Kd.S_below (by (refine Qbo ?_); exact HO107.out) hb)
           have n1_ := Aside0.mk (Kd.S_lower ho0 (QaE (bw_)))
           have n2_ := Aside0.mk (Kd.R_lower ho1 (QaE (bw_)))
           have n3_ := Aside0.mk (bb_ BK101 hb)
           have n4_ := Aside0.mk (bb_ BK102 hb)
           have n5_ := Aside0.mk (Qac (bw_) hb)
           clear HO107
           clear BK101
           clear BK102
           clear HB
           have HO107 := n0_
           have HO110 := n1_
           have HO115 := n2_
           have BK101 := n3_
           have BK102 := n4_
           have HB := n5_
           clear n0_ n1_ n2_ n3_ n4_ n5_
           (try clear hb)
           (try clear hb2)
           (try clear hk)
           (try clear hi)
           (try clear ho0)
           (try clear ho1)
           obtain ⟨Ao115, co115, eo115⟩ := Kd.S_slice HO107.out
           (first | subst eo115 | (injection eo115 with f1_ f2_ f3_; have f4_ := f1_.symm; have f5_ := f3_.symm; clear f1_ f2_ f3_; subst f4_; subst f5_))
           obtain ⟨Ao116, co116, eo116⟩ := Kd.S_slice HO110.out
           (first | subst eo116 | (injection eo116 with f1_ f2_ f3_; have f4_ := f1_.symm; have f5_ := f3_.symm; clear f1_ f2_ f3_; subst f4_; subst f5_))
           obtain ⟨Ao117, co117, eo117⟩ := Kd.R_slice HO115.out
           (first | subst eo117 | (injection eo117 with f1_ f2_ f3_; have f4_ := f1_.symm; have f5_ := f3_.symm; clear f1_ f2_ f3_; subst f4_; subst f5_))
           refine hK.out _ _ ⟨(Qab BK101.out 0).trans rfl, (Qab BK102.out 0).trans rfl, (Qab BK102.out 1).trans rfl, (Qab BK102.out 2).trans rfl, (Qab BK102.out 3).trans rfl, (Qab BK102.out 4).trans rfl⟩ (fun hHeld => ?_)
           clear hK K
           refine QbK (a' := ?_) ?_ ?_
           rotate_left
           · show Act.put _ (some 23) _ = _
             simp only [Act.put, List.setIfInBounds_toArray, List.set_cons_zero, List.set_cons_succ, QbA, QbB]
             rfl
           refine Qcx (i := 4) (N := some 24) #[true, true, true, true, true, false] rfl rfl (by kernel_rfl) (by decide) (fun K hK => ?_)
           refine QbL Try.func42 (by kernel_rfl) rfl #[.agg #[.slice Ao115 t105.length co115], .agg #[.slice Ao116 t108.length co116, .int .i64 t111, .int .i64 t112, .slice Ao117 t113.length co117, .int .i64 t116]] (by rfl) rfl rfl (by (try simp only [List.map_toArray, List.map_cons, List.map_nil]); first | done | rfl | (simp only [List.length_drop, List.length_take]; rfl)) ?_
           with_reducible refine (Qah.calls k _ _ t105 _ _ t108 t111 t112 _ _ t113 t116 t117 _ ?side1 ?side2 ?side3 ?side4 ?side5 ?side6 A21.out).mono ?_
           (case side1 => repeat (first | exact (Kd.S_reads' HO107.out).2.2 | (with_reducible refine Kd.C_alloc ?_ _) | (with_reducible refine Kd.C_drewN ?_ _) | (with_reducible refine Kd.C_drew ?_)))
           (case side2 => exact (Kd.S_reads' HO107.out).2.1)
           (case side3 => repeat (first | exact (Kd.S_reads' HO110.out).2.2 | (with_reducible refine Kd.C_alloc ?_ _) | (with_reducible refine Kd.C_drewN ?_ _) | (with_reducible refine Kd.C_drew ?_)))
           (case side4 => exact (Kd.S_reads' HO110.out).2.1)
           (case side5 => repeat (first | exact (Kd.R_reads' HO115.out).2.2 | (with_reducible refine Kd.C_alloc ?_ _) | (with_reducible refine Kd.C_drewN ?_ _) | (with_reducible refine Kd.C_drew ?_)))
           (case side6 => exact (Kd.R_reads' HO115.out).2.1)
           rintro e w118 ⟨rfl, hb⟩
           refine ⟨_, rfl, ?_⟩
           have n0_ := Aside0.mk (Kd.S_below (by (refine Qbo ?_); exact HO107.out) hb)
           have n1_ := Aside0.mk (Kd.S_below (by (refine Qbo ?_); exact HO110.out) hb)
           have n2_ := Aside0.mk (Kd.R_below (by (refine QbI ?_); exact HO115.out) hb)
           have n3_ := Aside0.mk (bb_ BK101 hb)
           have n4_ := Aside0.mk (bb_ BK102 hb)
           have n5_ := Aside0.mk (Qac (bw_) hb)
           clear HO107
           clear HO110
           clear HO115
           clear BK101
           clear BK102
           clear HB
           have HO107 := n0_
           have HO110 := n1_
           have HO115 := n2_
           have BK101 := n3_
           have BK102 := n4_
           have HB := n5_
           clear n0_ n1_ n2_ n3_ n4_ n5_
           (try clear hb)
           (try clear hb2)
           (try clear hk)
           (try clear hi)
           refine hK.out _ _ ⟨(Qab BK101.out 0).trans rfl, (Qab BK102.out 0).trans rfl, (Qab BK102.out 1).trans rfl, (Qab BK102.out 2).trans rfl, (Qab BK102.out 3).trans rfl, (Qab BK102.out 4).trans rfl⟩ (fun hHeld => ?_)
           clear hK K
           refine QbK (a' := ?_) ?_ ?_
           rotate_left
           · show Act.put _ (some 24) _ = _
             simp only [Act.put, List.setIfInBounds_toArray, List.set_cons_zero, List.set_cons_succ, QbA, QbB]
             rfl
           refine pu_ 5 (some 6) #[true, true, true, true, true, true] rfl rfl ?_
           refine Qcc (by kernel_rfl) ?_
           have hcz119_0 : w118.cell? ⟨gb101, 0, none⟩ = some (.slice A0_0 l0_0.length c0_0) := (Qab BK101.out 0).trans rfl
           have hfz119_0 := Qad BK101.out 0
           try go_wp2_with (first | ((with_reducible refine Qal (f := 28) rfl ?_); refine QaU (some 26) rfl rfl Try.func28 (by kernel_rfl) rfl #[.agg #[.slice A0_0 l0_0.length c0_0]] rfl (by (try simp only [List.map_toArray, List.map_cons, List.map_nil]); first | done | rfl | (simp only [List.length_drop, List.length_take]; rfl)) ?_; (with_reducible refine (QaT.calls k _ _ l0_0 t118 _ ?side1 ?side2 A22.out).mono ?_); (case side1 => exact cb_); (case side2 => exact HC0_0.out); rintro e w120 ⟨v119, rfl, ho0, hb⟩; refine ⟨_, rfl, ?_⟩; have n0_ := Aside0.mk (Kd.S_elder' (by (refine Qbo ?_); exact HO107.out) (Kd.S_base ho0) hb); have n1_ := Aside0.mk (Kd.S_below (by (refine Qbo ?_); exact HO110.out) hb); have n2_ := Aside0.mk (Kd.R_below (by (refine QbI ?_); exact HO115.out) hb); have n3_ := Aside0.mk (Kd.S_lower (Kd.S_new' ho0 (Kd.S_lt (by (refine Qbo ?_); exact HO107.out))) (QaE (bw_))); have n4_ := Aside0.mk (bb_ BK101 hb); have n5_ := Aside0.mk (bb_ BK102 hb); have n6_ := Aside0.mk (Qac (bw_) hb); clear HO107; clear HO110; clear HO115; clear BK101; clear BK102; clear HB; have HO107 := n0_; have HO110 := n1_; have HO115 := n2_; have HO120 := n3_; have BK101 := n4_; have BK102 := n5_; have HB := n6_; clear n0_ n1_ n2_ n3_ n4_ n5_ n6_; (try clear hb); (try clear hb2); (try clear hk); (try clear hi); (try clear ho0)) | ((with_reducible refine Qaq (N := 7) rfl ?_); refine Qam ?hg (N := 7) ?hd (cs := #[.slice none 0 0]) (t := 25) ?hr ?_; (case hd => rfl); (case hg => rfl); (case hr => first | (go_simp; done) | (go_simp; rfl)); intro gb121 hg w121 hbox hb; have n0_ := Aside0.mk (Kd.S_below (by (refine Qbo ?_); exact HO107.out) hb); have n1_ := Aside0.mk (Kd.S_below (by (refine Qbo ?_); exact HO110.out) hb); have n2_ := Aside0.mk (Kd.R_below (by (refine QbI ?_); exact HO115.out) hb); have n3_ := Aside0.mk (Kd.S_below (by (refine Qbo ?_); exact HO120.out) hb); have n4_ := Aside0.mk (bb_ BK101 hb); have n5_ := Aside0.mk (bb_ BK102 hb); have n6_ := Aside0.mk (Qac (bw_) hb); have n7_ := Aside0.mk (hbox); have n8_ := Aside0.mk ((gs_ hg bw_ : w.heap.size ≤ gb121)); have n9_ := Aside0.mk ((gs_ hg bw_ : w.heap.size ≤ gb121)); have n10_ := Aside0.mk ((nl_ hg BK101 : gb101 ≠ gb121)); have n11_ := Aside0.mk ((ng_ hg BK101 : gb121 ≠ gb101)); have n12_ := Aside0.mk ((nl_ hg BK102 : gb102 ≠ gb121)); have n13_ := Aside0.mk ((ng_ hg BK102 : gb121 ≠ gb102)); clear HO107; clear HO110; clear HO115; clear HO120; clear BK101; clear BK102; clear HB; have HO107 := n0_; have HO110 := n1_; have HO115 := n2_; have HO120 := n3_; have BK101 := n4_; have BK102 := n5_; have HB := n6_; have BK121 := n7_; have GW121 := n8_; have GE121 := n9_; have NB101_121 := n10_; have NB121_101 := n11_; have NB102_121 := n12_; have NB121_102 := n13_; clear n0_ n1_ n2_ n3_ n4_ n5_ n6_ n7_ n8_ n9_ n10_ n11_ n12_ n13_; clear hb hbox hg; obtain ⟨Ao122, co122, eo122⟩ := Kd.S_slice HO120.out; subst eo122; have hnb123 := NB121_101.out; have hnc123 := NB101_121.out; have hnb124 := NB121_102.out; have hnc124 := NB102_121.out; obtain ⟨hcz125_0, hfz125_0⟩ := QbM BK121.out; obtain ⟨hcz126_0, hcz126_1, hcz126_2, hcz126_3, hcz126_4, hfz126_0, hfz126_1, hfz126_2, hfz126_3, hfz126_4⟩ := Qbe BK102.out) | ((with_reducible refine Qal (f := 43) rfl ?_); refine QaU (some 28) rfl rfl Try.func43 (by kernel_rfl) rfl #[.agg #[.slice A1_0 l1_0.length c1_0, .int .i64 a1_1, .int .i64 a1_2, .slice A1_3 l1_3.length c1_3, .int .i64 a1_4]] rfl (by (try simp only [List.map_toArray, List.map_cons, List.map_nil]); first | done | rfl | (simp only [List.length_drop, List.length_take]; rfl)) ?_; (with_reducible refine (QaK.calls k _ _ l1_0 a1_1 a1_2 _ _ l1_3 a1_4 t122 t125 t126 t127 t130 _ ?side1 ?side2 ?side3 ?side4 A23.out).mono ?_); (case side1 => exact Kd.C_below HR1_0.out (bw_)); (case side2 => exact HC1_0.out); (case side3 => exact Kd.C_below HR1_3.out (bw_)); (case side4 => exact HC1_3.out); rintro e w127 ⟨v123, v128, rfl, ho0, ho1, hb⟩; refine ⟨_, rfl, ?_⟩; have n0_ := Aside0.mk (Kd.S_below (by (refine Qbo ?_); exact (Kd.S_mono (Kd.S_far (p := ⟨gb121, 0, none⟩) (Kd.S_types HO107.out BK121.out (by decide)) (fun _ hk => hk.2) (.slice Ao122 t118.length co122)) (fun _ h_ => h_.1))) hb); have n1_ := Aside0.mk (Kd.S_mono (Kd.S_told (Kd.S_told (Kd.S_old (by (refine Qbo ?_); exact (Kd.S_mono (Kd.S_far (p := ⟨gb121, 0, none⟩) (Kd.S_types HO110.out BK121.out (by decide)) (fun _ hk => hk.2) (.slice Ao122 t118.length co122)) (fun _ h_ => h_.1))) hb) (Kd.S_base ho0)) (Kd.R_base ho1)) (fun _ h_ => h_.1)); have n2_ := Aside0.mk (Kd.R_elder' (by (refine QbI ?_); exact (Kd.R_mono (Kd.R_far (p := ⟨gb121, 0, none⟩) (Kd.R_types HO115.out BK121.out (by decide)) (fun _ hk => hk.2) (.slice Ao122 t118.length co122)) (fun _ h_ => h_.1))) (Kd.R_base ho1) hb); have n3_ := Aside0.mk (Kd.S_below (by (refine Qbo ?_); exact (Kd.S_mono (Kd.S_far (p := ⟨gb121, 0, none⟩) (Kd.S_types HO120.out BK121.out (by decide)) (fun _ hk => hk.2) (.slice Ao122 t118.length co122)) (fun _ h_ => h_.1))) hb); have n4_ := Aside0.mk (Kd.S_lower (Kd.S_new' (Kd.S_new' ho0 (Kd.S_lt (by (refine Qbo ?_); exact (Kd.S_mono (Kd.S_far (p := ⟨gb121, 0, none⟩) (Kd.S_types HO110.out BK121.out (by decide)) (fun _ hk => hk.2) (.slice Ao122 t118.length co122)) (fun _ h_ => h_.1))))) (Kd.R_lt (by (refine QbI ?_); exact (Kd.R_mono (Kd.R_far (p := ⟨gb121, 0, none⟩) (Kd.R_types HO115.out BK121.out (by decide)) (fun _ hk => hk.2) (.slice Ao122 t118.length co122)) (fun _ h_ => h_.1))))) (QaE (bw_))); have n5_ := Aside0.mk (Kd.R_lower (Kd.R_new' ho1 (Kd.R_lt (by (refine QbI ?_); exact (Kd.R_mono (Kd.R_far (p := ⟨gb121, 0, none⟩) (Kd.R_types HO115.out BK121.out (by decide)) (fun _ hk => hk.2) (.slice Ao122 t118.length co122)) (fun _ h_ => h_.1))))) (QaE (bw_))); have n6_ := Aside0.mk (QaV (g := gb101) (o := .cells #[.slice A0_0 l0_0.length c0_0] 41 (0, 0)) (by (refine kb_ ?_); refine Qar ?_ NB101_121.out _; (refine kb_ ?_); exact BK101.out) hb); have n7_ := Aside0.mk (QaV (g := gb102) (o := .cells #[.slice A1_0 l1_0.length c1_0, .int .i64 a1_1, .int .i64 a1_2, .slice A1_3 l1_3.length c1_3, .int .i64 a1_4] 61 (0, 0)) (by (refine kb_ ?_); refine Qar ?_ NB102_121.out _; (refine kb_ ?_); exact BK102.out) hb); have n8_ := Aside0.mk (QaV (g := gb121) (o := .cells #[.slice Ao122 t118.length co122] 25 (0, 0)) (by (refine kb_ ?_); refine Qa1 (cs := #[.slice none 0 0]) ?_ 0 _ rfl; (refine kb_ ?_); exact BK121.out) hb); have n9_ := Aside0.mk (Qac (bw_) hb); clear HO107; clear HO110; clear HO115; clear HO120; clear BK101; clear BK102; clear BK121; clear HB; have HO107 := n0_; have HO110 := n1_; have HO115 := n2_; have HO120 := n3_; have HO124 := n4_; have HO129 := n5_; have BK101 := n6_; have BK102 := n7_; have BK121 := n8_; have HB := n9_; clear n0_ n1_ n2_ n3_ n4_ n5_ n6_ n7_ n8_ n9_; (try clear hb); (try clear hb2); (try clear hk); (try clear hi); (try clear ho0); (try clear ho1)) | ((with_reducible refine Qaq (N := 8) rfl ?_); refine Qam ?hg (N := 8) ?hd (cs := #[.slice none 0 0, .int .i64 0, .int .i64 0, .slice none 0 0, .int .i64 0]) (t := 46) ?hr ?_; (case hd => rfl); (case hg => rfl); (case hr => first | (go_simp; done) | (go_simp; rfl)); intro gb131 hg w128 hbox hb; have n0_ := Aside0.mk (Kd.S_below (by (refine Qbo ?_); exact HO107.out) hb); have n1_ := Aside0.mk (Kd.S_below (by (refine Qbo ?_); exact HO110.out) hb); have n2_ := Aside0.mk (Kd.R_below (by (refine QbI ?_); exact HO115.out) hb); have n3_ := Aside0.mk (Kd.S_below (by (refine Qbo ?_); exact HO120.out) hb); have n4_ := Aside0.mk (Kd.S_below (by (refine Qbo ?_); exact HO124.out) hb); have n5_ := Aside0.mk (Kd.R_below (by (refine QbI ?_); exact HO129.out) hb); have n6_ := Aside0.mk (bb_ BK101 hb); have n7_ := Aside0.mk (bb_ BK102 hb); have n8_ := Aside0.mk (bb_ BK121 hb); have n9_ := Aside0.mk (Qac (bw_) hb); have n10_ := Aside0.mk (hbox); have n11_ := Aside0.mk ((gs_ hg bw_ : w.heap.size ≤ gb131)); have n12_ := Aside0.mk ((gs_ hg bw_ : w.heap.size ≤ gb131)); have n13_ := Aside0.mk ((nl_ hg BK101 : gb101 ≠ gb131)); have n14_ := Aside0.mk ((ng_ hg BK101 : gb131 ≠ gb101)); have n15_ := Aside0.mk ((nl_ hg BK102 : gb102 ≠ gb131)); have n16_ := Aside0.mk ((ng_ hg BK102 : gb131 ≠ gb102)); have n17_ := Aside0.mk ((nl_ hg BK121 : gb121 ≠ gb131)); have n18_ := Aside0.mk ((ng_ hg BK121 : gb131 ≠ gb121)); clear HO107; clear HO110; clear HO115; clear HO120; clear HO124; clear HO129; clear BK101; clear BK102; clear BK121; clear HB; have HO107 := n0_; have HO110 := n1_; have HO115 := n2_; have HO120 := n3_; have HO124 := n4_; have HO129 := n5_; have BK101 := n6_; have BK102 := n7_; have BK121 := n8_; have HB := n9_; have BK131 := n10_; have GW131 := n11_; have GE131 := n12_; have NB101_131 := n13_; have NB131_101 := n14_; have NB102_131 := n15_; have NB131_102 := n16_; have NB121_131 := n17_; have NB131_121 := n18_; clear n0_ n1_ n2_ n3_ n4_ n5_ n6_ n7_ n8_ n9_ n10_ n11_ n12_ n13_ n14_ n15_ n16_ n17_ n18_; clear hb hbox hg; obtain ⟨Ao129, co129, eo129⟩ := Kd.S_slice HO124.out; subst eo129; have hnb130 := NB131_101.out; have hnc130 := NB101_131.out; have hnb131 := NB131_102.out; have hnc131 := NB102_131.out; have hnb132 := NB131_121.out; have hnc132 := NB121_131.out; obtain ⟨hcz133_0, hcz133_1, hcz133_2, hcz133_3, hcz133_4, hfz133_0, hfz133_1, hfz133_2, hfz133_3, hfz133_4⟩ := Qbe BK131.out; obtain ⟨Ao134, co134, eo134⟩ := Kd.R_slice HO129.out; subst eo134; obtain ⟨hcz135_0, hfz135_0⟩ := QbM BK121.out) | ((with_reducible refine Qal (f := 37) rfl ?_); refine QaU (some 31) rfl rfl Try.func37 (by kernel_rfl) rfl #[.agg #[.slice Ao122 t118.length co122], .agg #[.slice Ao129 t122.length co129, .int .i64 t125, .int .i64 t126, .slice Ao134 t127.length co134, .int .i64 t130]] rfl (by (try simp only [List.map_toArray, List.map_cons, List.map_nil]); first | done | rfl | (simp only [List.length_drop, List.length_take]; rfl)) ?_; (with_reducible refine (Qak.calls k _ _ t118 _ _ t122 t125 t126 _ _ t127 t130 t132 _ ?side1 ?side2 ?side3 ?side4 ?side5 ?side6 A24.out).mono ?_); (case side1 => refine (Kd.S_reads' (e := 34) (base := w.heap.size) (ok := fun k_ => (True ∧ some k_ ≠ (.slice Ao115 t105.length co115 : Value).ownBlock)) (n := t118.length) (c := co122) ?_).2.2; exact (by (refine Qbo ?_); exact (Kd.S_mono (Kd.S_far (p := ⟨gb131, 4, none⟩) (Kd.S_far (p := ⟨gb131, 3, none⟩) (Kd.S_far (p := ⟨gb131, 2, none⟩) (Kd.S_far (p := ⟨gb131, 1, none⟩) (Kd.S_far (p := ⟨gb131, 0, none⟩) (Kd.S_types HO120.out BK131.out (by decide)) (fun _ hk => hk.2) (.slice Ao129 t122.length co129)) (fun _ hk => hk.2) (.int .i64 t125)) (fun _ hk => hk.2) (.int .i64 t126)) (fun _ hk => hk.2) (.slice Ao134 t127.length co134)) (fun _ hk => hk.2) (.int .i64 t130)) (fun _ h_ => h_.1)))); (case side2 => exact (Kd.S_reads' HO120.out).2.1); (case side3 => refine (Kd.S_reads' (e := 67) (base := w.heap.size) (ok := fun k_ => ((some k_ ≠ (.slice Ao134 t127.length co134 : Value).ownBlock ∧ some k_ ≠ (.slice Ao116 t108.length co116 : Value).ownBlock) ∧ some k_ ≠ (.slice Ao117 t113.length co117 : Value).ownBlock)) (n := t122.length) (c := co129) ?_).2.2; exact (by (refine Qbo ?_); exact (Kd.S_mono (Kd.S_far (p := ⟨gb131, 4, none⟩) (Kd.S_far (p := ⟨gb131, 3, none⟩) (Kd.S_far (p := ⟨gb131, 2, none⟩) (Kd.S_far (p := ⟨gb131, 1, none⟩) (Kd.S_far (p := ⟨gb131, 0, none⟩) (Kd.S_types HO124.out BK131.out (by decide)) (fun _ hk => hk.2) (.slice Ao129 t122.length co129)) (fun _ hk => hk.2) (.int .i64 t125)) (fun _ hk => hk.2) (.int .i64 t126)) (fun _ hk => hk.2) (.slice Ao134 t127.length co134)) (fun _ hk => hk.2) (.int .i64 t130)) (fun _ h_ => h_.1)))); (case side4 => exact (Kd.S_reads' HO124.out).2.1); (case side5 => refine (Kd.R_reads' (e := 104) (base := w.heap.size) (ok := fun k_ => (True ∧ some k_ ≠ (.slice Ao117 t113.length co117 : Value).ownBlock)) (n := t127.length) (c := co134) ?_).2.2; exact (by (refine QbI ?_); exact (Kd.R_mono (Kd.R_far (p := ⟨gb131, 4, none⟩) (Kd.R_far (p := ⟨gb131, 3, none⟩) (Kd.R_far (p := ⟨gb131, 2, none⟩) (Kd.R_far (p := ⟨gb131, 1, none⟩) (Kd.R_far (p := ⟨gb131, 0, none⟩) (Kd.R_types HO129.out BK131.out (by decide)) (fun _ hk => hk.2) (.slice Ao129 t122.length co129)) (fun _ hk => hk.2) (.int .i64 t125)) (fun _ hk => hk.2) (.int .i64 t126)) (fun _ hk => hk.2) (.slice Ao134 t127.length co134)) (fun _ hk => hk.2) (.int .i64 t130)) (fun _ h_ => h_.1)))); (case side6 => exact (Kd.R_reads' HO129.out).2.1); rintro e w136 ⟨rfl, hb⟩; refine ⟨_, rfl, ?_⟩; have n0_ := Aside0.mk (Kd.S_below (by (refine Qbo ?_); exact (Kd.S_mono (Kd.S_far (p := ⟨gb131, 4, none⟩) (Kd.S_far (p := ⟨gb131, 3, none⟩) (Kd.S_far (p := ⟨gb131, 2, none⟩) (Kd.S_far (p := ⟨gb131, 1, none⟩) (Kd.S_far (p := ⟨gb131, 0, none⟩) (Kd.S_types HO107.out BK131.out (by decide)) (fun _ hk => hk.2) (.slice Ao129 t122.length co129)) (fun _ hk => hk.2) (.int .i64 t125)) (fun _ hk => hk.2) (.int .i64 t126)) (fun _ hk => hk.2) (.slice Ao134 t127.length co134)) (fun _ hk => hk.2) (.int .i64 t130)) (fun _ h_ => h_.1))) hb); have n1_ := Aside0.mk (Kd.S_below (by (refine Qbo ?_); exact (Kd.S_mono (Kd.S_far (p := ⟨gb131, 4, none⟩) (Kd.S_far (p := ⟨gb131, 3, none⟩) (Kd.S_far (p := ⟨gb131, 2, none⟩) (Kd.S_far (p := ⟨gb131, 1, none⟩) (Kd.S_far (p := ⟨gb131, 0, none⟩) (Kd.S_types HO110.out BK131.out (by decide)) (fun _ hk => hk.2) (.slice Ao129 t122.length co129)) (fun _ hk => hk.2) (.int .i64 t125)) (fun _ hk => hk.2) (.int .i64 t126)) (fun _ hk => hk.2) (.slice Ao134 t127.length co134)) (fun _ hk => hk.2) (.int .i64 t130)) (fun _ h_ => h_.1))) hb); have n2_ := Aside0.mk (Kd.R_below (by (refine QbI ?_); exact (Kd.R_mono (Kd.R_far (p := ⟨gb131, 4, none⟩) (Kd.R_far (p := ⟨gb131, 3, none⟩) (Kd.R_far (p := ⟨gb131, 2, none⟩) (Kd.R_far (p := ⟨gb131, 1, none⟩) (Kd.R_far (p := ⟨gb131, 0, none⟩) (Kd.R_types HO115.out BK131.out (by decide)) (fun _ hk => hk.2) (.slice Ao129 t122.length co129)) (fun _ hk => hk.2) (.int .i64 t125)) (fun _ hk => hk.2) (.int .i64 t126)) (fun _ hk => hk.2) (.slice Ao134 t127.length co134)) (fun _ hk => hk.2) (.int .i64 t130)) (fun _ h_ => h_.1))) hb); have n3_ := Aside0.mk (Kd.S_below (by (refine Qbo ?_); exact (Kd.S_mono (Kd.S_far (p := ⟨gb131, 4, none⟩) (Kd.S_far (p := ⟨gb131, 3, none⟩) (Kd.S_far (p := ⟨gb131, 2, none⟩) (Kd.S_far (p := ⟨gb131, 1, none⟩) (Kd.S_far (p := ⟨gb131, 0, none⟩) (Kd.S_types HO120.out BK131.out (by decide)) (fun _ hk => hk.2) (.slice Ao129 t122.length co129)) (fun _ hk => hk.2) (.int .i64 t125)) (fun _ hk => hk.2) (.int .i64 t126)) (fun _ hk => hk.2) (.slice Ao134 t127.length co134)) (fun _ hk => hk.2) (.int .i64 t130)) (fun _ h_ => h_.1))) hb); have n4_ := Aside0.mk (Kd.S_below (by (refine Qbo ?_); exact (Kd.S_mono (Kd.S_far (p := ⟨gb131, 4, none⟩) (Kd.S_far (p := ⟨gb131, 3, none⟩) (Kd.S_far (p := ⟨gb131, 2, none⟩) (Kd.S_far (p := ⟨gb131, 1, none⟩) (Kd.S_far (p := ⟨gb131, 0, none⟩) (Kd.S_types HO124.out BK131.out (by decide)) (fun _ hk => hk.2) (.slice Ao129 t122.length co129)) (fun _ hk => hk.2) (.int .i64 t125)) (fun _ hk => hk.2) (.int .i64 t126)) (fun _ hk => hk.2) (.slice Ao134 t127.length co134)) (fun _ hk => hk.2) (.int .i64 t130)) (fun _ h_ => h_.1))) hb); have n5_ := Aside0.mk (Kd.R_below (by (refine QbI ?_); exact (Kd.R_mono (Kd.R_far (p := ⟨gb131, 4, none⟩) (Kd.R_far (p := ⟨gb131, 3, none⟩) (Kd.R_far (p := ⟨gb131, 2, none⟩) (Kd.R_far (p := ⟨gb131, 1, none⟩) (Kd.R_far (p := ⟨gb131, 0, none⟩) (Kd.R_types HO129.out BK131.out (by decide)) (fun _ hk => hk.2) (.slice Ao129 t122.length co129)) (fun _ hk => hk.2) (.int .i64 t125)) (fun _ hk => hk.2) (.int .i64 t126)) (fun _ hk => hk.2) (.slice Ao134 t127.length co134)) (fun _ hk => hk.2) (.int .i64 t130)) (fun _ h_ => h_.1))) hb); have n6_ := Aside0.mk (QaV (g := gb101) (o := .cells #[.slice A0_0 l0_0.length c0_0] 41 (0, 0)) (by (refine kb_ ?_); refine Qar ?_ NB101_131.out _; (refine kb_ ?_); refine Qar ?_ NB101_131.out _; (refine kb_ ?_); refine Qar ?_ NB101_131.out _; (refine kb_ ?_); refine Qar ?_ NB101_131.out _; (refine kb_ ?_); refine Qar ?_ NB101_131.out _; (refine kb_ ?_); exact BK101.out) hb); have n7_ := Aside0.mk (QaV (g := gb102) (o := .cells #[.slice A1_0 l1_0.length c1_0, .int .i64 a1_1, .int .i64 a1_2, .slice A1_3 l1_3.length c1_3, .int .i64 a1_4] 61 (0, 0)) (by (refine kb_ ?_); refine Qar ?_ NB102_131.out _; (refine kb_ ?_); refine Qar ?_ NB102_131.out _; (refine kb_ ?_); refine Qar ?_ NB102_131.out _; (refine kb_ ?_); refine Qar ?_ NB102_131.out _; (refine kb_ ?_); refine Qar ?_ NB102_131.out _; (refine kb_ ?_); exact BK102.out) hb); have n8_ := Aside0.mk (QaV (g := gb121) (o := .cells #[.slice Ao122 t118.length co122] 25 (0, 0)) (by (refine kb_ ?_); refine Qar ?_ NB121_131.out _; (refine kb_ ?_); refine Qar ?_ NB121_131.out _; (refine kb_ ?_); refine Qar ?_ NB121_131.out _; (refine kb_ ?_); refine Qar ?_ NB121_131.out _; (refine kb_ ?_); refine Qar ?_ NB121_131.out _; (refine kb_ ?_); exact BK121.out) hb); have n9_ := Aside0.mk (QaV (g := gb131) (o := .cells #[.slice Ao129 t122.length co129, .int .i64 t125, .int .i64 t126, .slice Ao134 t127.length co134, .int .i64 t130] 46 (0, 0)) (by (refine kb_ ?_); refine Qa1 (cs := #[.slice Ao129 t122.length co129, .int .i64 t125, .int .i64 t126, .slice Ao134 t127.length co134, .int .i64 0]) ?_ 4 _ rfl; (refine kb_ ?_); refine Qa1 (cs := #[.slice Ao129 t122.length co129, .int .i64 t125, .int .i64 t126, .slice none 0 0, .int .i64 0]) ?_ 3 _ rfl; (refine kb_ ?_); refine Qa1 (cs := #[.slice Ao129 t122.length co129, .int .i64 t125, .int .i64 0, .slice none 0 0, .int .i64 0]) ?_ 2 _ rfl; (refine kb_ ?_); refine Qa1 (cs := #[.slice Ao129 t122.length co129, .int .i64 0, .int .i64 0, .slice none 0 0, .int .i64 0]) ?_ 1 _ rfl; (refine kb_ ?_); refine Qa1 (cs := #[.slice none 0 0, .int .i64 0, .int .i64 0, .slice none 0 0, .int .i64 0]) ?_ 0 _ rfl; (refine kb_ ?_); exact BK131.out) hb); have n10_ := Aside0.mk (Qac (bw_) hb); clear HO107; clear HO110; clear HO115; clear HO120; clear HO124; clear HO129; clear BK101; clear BK102; clear BK121; clear BK131; clear HB; have HO107 := n0_; have HO110 := n1_; have HO115 := n2_; have HO120 := n3_; have HO124 := n4_; have HO129 := n5_; have BK101 := n6_; have BK102 := n7_; have BK121 := n8_; have BK131 := n9_; have HB := n10_; clear n0_ n1_ n2_ n3_ n4_ n5_ n6_ n7_ n8_ n9_ n10_; (try clear hb); (try clear hb2); (try clear hk); (try clear hi)))
           have n0_ := Aside0.mk (Kd.S_drew HO107.out)
           have n1_ := Aside0.mk (Kd.S_drew HO110.out)
           have n2_ := Aside0.mk (Kd.R_drew HO115.out)
           have n3_ := Aside0.mk (Kd.S_drew HO120.out)
           have n4_ := Aside0.mk (Kd.S_drew HO124.out)
           have n5_ := Aside0.mk (Kd.R_drew HO129.out)
           have n6_ := Aside0.mk (Qa2 BK101.out)
           have n7_ := Aside0.mk (Qa2 BK102.out)
           have n8_ := Aside0.mk (Qa2 BK121.out)
           have n9_ := Aside0.mk (Qa2 BK131.out)
           have n10_ := Aside0.mk (Qa7 HB.out)
           clear HO107
           clear HO110
           clear HO115
           clear HO120
           clear HO124
           clear HO129
           clear BK101
           clear BK102
           clear BK121
           clear BK131
           clear HB
           have HO107 := n0_
           have HO110 := n1_
           have HO115 := n2_
           have HO120 := n3_
           have HO124 := n4_
           have HO129 := n5_
           have BK101 := n6_
           have BK102 := n7_
           have BK121 := n8_
           have BK131 := n9_
           have HB := n10_
           clear n0_ n1_ n2_ n3_ n4_ n5_ n6_ n7_ n8_ n9_ n10_
           refine QbP (n := 5) (S := fun w' => w'.cell? ⟨gb121, 0, none⟩ = some (.slice Ao122 t118.length co122) ∧ w'.cell? ⟨gb101, 0, none⟩ = some (.slice A0_0 l0_0.length c0_0)) (ds := []) #[false, false, false, false, false] (by kernel_rfl) rfl rfl ⟨(Qab BK121.out 0).trans rfl, (Qab BK101.out 0).trans rfl⟩ (fun hHeld => ?_)
           generalize w136.drew = w137 at HO107 HO110 HO115 HO120 HO124 HO129 BK101 BK102 BK121 BK131 HB hHeld ⊢
           refine tk_ 0 (some 35) #[true, false, false, false, false] rfl rfl hHeld ?_
           refine tk_ 1 (some 36) #[true, true, false, false, false] rfl rfl hHeld ?_
           refine Qcx (i := 2) (N := some 37) #[true, true, true, false, false] rfl rfl (by kernel_rfl) (by decide) (fun K hK => ?_)
           refine QbL Try.func28 (by kernel_rfl) rfl #[.agg #[.slice A0_0 l0_0.length c0_0]] (by rfl) rfl rfl (by (try simp only [List.map_toArray, List.map_cons, List.map_nil]); first | done | rfl | (simp only [List.length_drop, List.length_take]; rfl)) ?_
           with_reducible refine (QaT.calls k _ _ l0_0 t133 _ ?side1 ?side2 A58.out).mono ?_
           (case side1 => exact cb_)
           (case side2 => exact HC0_0.out)
           rintro e w138 ⟨v134, rfl, ho0, hb⟩
           refine ⟨_, rfl, ?_⟩
           have n0_ := Aside0.mk (Kd.S_elder' (by (refine Qbo ?_); exact HO107.out) (Kd.S_base ho0) hb)
           have n1_ := Aside0.mk (Kd.S_below (by (refine Qbo ?_); exact HO110.out) hb)
           have n2_ := Aside0.mk (Kd.R_below (by (refine QbI ?_); exact HO115.out) hb)
           have n3_ := Aside0.mk (Kd.S_elder' (by (refine Qbo ?_); exact HO120.out) (Kd.S_base ho0) hb)
           have n4_ := Aside0.mk (Kd.S_below (by (refine Qbo ?_); exact HO124.out) hb)
           have n5_ := Aside0.mk (Kd.R_below (by (refine QbI ?_); exact HO129.out) hb)
           have n6_ := Aside0.mk (Kd.S_lower (Kd.S_new' (Kd.S_new' ho0 (Kd.S_lt (by (refine Qbo ?_); exact HO107.out))) (Kd.S_lt (by (refine Qbo ?_); exact HO120.out))) (QaE (bw_)))
           have n7_ := Aside0.mk (bb_ BK101 hb)
           have n8_ := Aside0.mk (bb_ BK102 hb)
           have n9_ := Aside0.mk (bb_ BK121 hb)
           have n10_ := Aside0.mk (bb_ BK131 hb)
           have n11_ := Aside0.mk (Qac (bw_) hb)
           clear HO107
           clear HO110
           clear HO115
           clear HO120
           clear HO124
           clear HO129
           clear BK101
           clear BK102
           clear BK121
           clear BK131
           clear HB
           have HO107 := n0_
           have HO110 := n1_
           have HO115 := n2_
           have HO120 := n3_
           have HO124 := n4_
           have HO129 := n5_
           have HO135 := n6_
           have BK101 := n7_
           have BK102 := n8_
           have BK121 := n9_
           have BK131 := n10_
           have HB := n11_
           clear n0_ n1_ n2_ n3_ n4_ n5_ n6_ n7_ n8_ n9_ n10_ n11_
           (try clear hb)
           (try clear hb2)
           (try clear hk)
           (try clear hi)
           (try clear ho0)
           obtain ⟨Ao139, co139, eo139⟩ := Kd.S_slice HO135.out
           (first | subst eo139 | (injection eo139 with f1_ f2_ f3_; have f4_ := f1_.symm; have f5_ := f3_.symm; clear f1_ f2_ f3_; subst f4_; subst f5_))
           refine hK.out _ _ ⟨(Qab BK121.out 0).trans rfl, (Qab BK101.out 0).trans rfl⟩ (fun hHeld => ?_)
           clear hK K
           refine QbK (a' := ?_) ?_ ?_
           rotate_left
           · show Act.put _ (some 37) _ = _
             simp only [Act.put, List.setIfInBounds_toArray, List.set_cons_zero, List.set_cons_succ, QbA, QbB]
             rfl
           refine Qcx (i := 3) (N := some 38) #[true, true, true, true, false] rfl rfl (by kernel_rfl) (by decide) (fun K hK => ?_)
           refine QbL Try.func31 (by kernel_rfl) rfl #[.agg #[.slice Ao122 t118.length co122], .agg #[.slice Ao139 t133.length co139]] (by rfl) rfl rfl (by (try simp only [List.map_toArray, List.map_cons, List.map_nil]); first | done | rfl | (simp only [List.length_drop, List.length_take]; rfl)) ?_
           with_reducible refine (Qbj.calls k _ _ t118 _ _ t133 true _ ?side1 ?side2 ?side3 ?side4 A59.out).mono ?_
           (case side1 => repeat (first | exact (Kd.S_reads' HO120.out).2.2 | (with_reducible refine Kd.C_alloc ?_ _) | (with_reducible refine Kd.C_drewN ?_ _) | (with_reducible refine Kd.C_drew ?_)))
           (case side2 => exact (Kd.S_reads' HO120.out).2.1)
           (case side3 => repeat (first | exact (Kd.S_reads' HO135.out).2.2 | (with_reducible refine Kd.C_alloc ?_ _) | (with_reducible refine Kd.C_drewN ?_ _) | (with_reducible refine Kd.C_drew ?_)))
           (case side4 => exact (Kd.S_reads' HO135.out).2.1)
           rintro e w140 ⟨rfl, hb⟩
           refine ⟨_, rfl, ?_⟩
           have n0_ := Aside0.mk (Kd.S_below (by (refine Qbo ?_); exact HO107.out) hb)
           have n1_ := Aside0.mk (Kd.S_below (by (refine Qbo ?_); exact HO110.out) hb)
           have n2_ := Aside0.mk (Kd.R_below (by (refine QbI ?_); exact HO115.out) hb)
           have n3_ := Aside0.mk (Kd.S_below (by (refine Qbo ?_); exact HO120.out) hb)
           have n4_ := Aside0.mk (Kd.S_below (by (refine Qbo ?_); exact HO124.out) hb)
           have n5_ := Aside0.mk (Kd.R_below (by (refine QbI ?_); exact HO129.out) hb)
           have n6_ := Aside0.mk (Kd.S_below (by (refine Qbo ?_); exact HO135.out) hb)
           have n7_ := Aside0.mk (bb_ BK101 hb)
           have n8_ := Aside0.mk (bb_ BK102 hb)
           have n9_ := Aside0.mk (bb_ BK121 hb)
           have n10_ := Aside0.mk (bb_ BK131 hb)
           have n11_ := Aside0.mk (Qac (bw_) hb)
           clear HO107
           clear HO110
           clear HO115
           clear HO120
           clear HO124
           clear HO129
           clear HO135
           clear BK101
           clear BK102
           clear BK121
           clear BK131
           clear HB
           have HO107 := n0_
           have HO110 := n1_
           have HO115 := n2_
           have HO120 := n3_
           have HO124 := n4_
           have HO129 := n5_
           have HO135 := n6_
           have BK101 := n7_
           have BK102 := n8_
           have BK121 := n9_
           have BK131 := n10_
           have HB := n11_
           clear n0_ n1_ n2_ n3_ n4_ n5_ n6_ n7_ n8_ n9_ n10_ n11_
           (try clear hb)
           (try clear hb2)
           (try clear hk)
           (try clear hi)
           refine hK.out _ _ ⟨(Qab BK121.out 0).trans rfl, (Qab BK101.out 0).trans rfl⟩ (fun hHeld => ?_)
           clear hK K
           refine QbK (a' := ?_) ?_ ?_
           rotate_left
           · show Act.put _ (some 38) _ = _
             simp only [Act.put, List.setIfInBounds_toArray, List.set_cons_zero, List.set_cons_succ, QbA, QbB]
             rfl
           refine pu_ 4 (some 39) #[true, true, true, true, true] rfl rfl ?_
           refine Qcc (by kernel_rfl) ?_
           try go_wp2
           have n0_ := Aside0.mk (Kd.S_drew HO107.out)
           have n1_ := Aside0.mk (Kd.S_drew HO110.out)
           have n2_ := Aside0.mk (Kd.R_drew HO115.out)
           have n3_ := Aside0.mk (Kd.S_drew HO120.out)
           have n4_ := Aside0.mk (Kd.S_drew HO124.out)
           have n5_ := Aside0.mk (Kd.R_drew HO129.out)
           have n6_ := Aside0.mk (Kd.S_drew HO135.out)
           have n7_ := Aside0.mk (Qa2 BK101.out)
           have n8_ := Aside0.mk (Qa2 BK102.out)
           have n9_ := Aside0.mk (Qa2 BK121.out)
           have n10_ := Aside0.mk (Qa2 BK131.out)
           have n11_ := Aside0.mk (Qa7 HB.out)
           clear HO107
           clear HO110
           clear HO115
           clear HO120
           clear HO124
           clear HO129
           clear HO135
           clear BK101
           clear BK102
           clear BK121
           clear BK131
           clear HB
           have HO107 := n0_
           have HO110 := n1_
           have HO115 := n2_
           have HO120 := n3_
           have HO124 := n4_
           have HO129 := n5_
           have HO135 := n6_
           have BK101 := n7_
           have BK102 := n8_
           have BK121 := n9_
           have BK131 := n10_
           have HB := n11_
           clear n0_ n1_ n2_ n3_ n4_ n5_ n6_ n7_ n8_ n9_ n10_ n11_
           refine QbP (n := 5) (S := fun w' => w'.cell? ⟨gb131, 0, none⟩ = some (.slice Ao129 t122.length co129) ∧ w'.cell? ⟨gb131, 1, none⟩ = some (.int .i64 t125) ∧ w'.cell? ⟨gb131, 2, none⟩ = some (.int .i64 t126) ∧ w'.cell? ⟨gb131, 3, none⟩ = some (.slice Ao134 t127.length co134) ∧ w'.cell? ⟨gb131, 4, none⟩ = some (.int .i64 t130) ∧ w'.cell? ⟨gb102, 0, none⟩ = some (.slice A1_0 l1_0.length c1_0) ∧ w'.cell? ⟨gb102, 1, none⟩ = some (.int .i64 a1_1) ∧ w'.cell? ⟨gb102, 2, none⟩ = some (.int .i64 a1_2) ∧ w'.cell? ⟨gb102, 3, none⟩ = some (.slice A1_3 l1_3.length c1_3) ∧ w'.cell? ⟨gb102, 4, none⟩ = some (.int .i64 a1_4)) (ds := []) #[false, false, false, false, false] (by kernel_rfl) rfl rfl ⟨(Qab BK131.out 0).trans rfl, (Qab BK131.out 1).trans rfl, (Qab BK131.out 2).trans rfl, (Qab BK131.out 3).trans rfl, (Qab BK131.out 4).trans rfl, (Qab BK102.out 0).trans rfl, (Qab BK102.out 1).trans rfl, (Qab BK102.out 2).trans rfl, (Qab BK102.out 3).trans rfl, (Qab BK102.out 4).trans rfl⟩ (fun hHeld => ?_)
           generalize w140.drew = w141 at HO107 HO110 HO115 HO120 HO124 HO129 HO135 BK101 BK102 BK121 BK131 HB hHeld ⊢
           refine tk_ 0 (some 40) #[true, false, false, false, false] rfl rfl hHeld ?_
           refine tk_ 1 (some 41) #[true, true, false, false, false] rfl rfl hHeld ?_
           refine Qcx (i := 2) (N := some 42) #[true, true, true, false, false] rfl rfl (by kernel_rfl) (by decide) (fun K hK => ?_)
           refine QbL Try.func43 (by kernel_rfl) rfl #[.agg #[.slice A1_0 l1_0.length c1_0, .int .i64 a1_1, .int .i64 a1_2, .slice A1_3 l1_3.length c1_3, .int .i64 a1_4]] (by rfl) rfl rfl (by (try simp only [List.map_toArray, List.map_cons, List.map_nil]); first | done | rfl | (simp only [List.length_drop, List.length_take]; rfl)) ?_
           with_reducible refine (QaK.calls k _ _ l1_0 a1_1 a1_2 _ _ l1_3 a1_4 t137 t140 t141 t142 t145 _ ?side1 ?side2 ?side3 ?side4 A61.out).mono ?_
           (case side1 => exact cb_)
           (case side2 => exact HC1_0.out)
           (case side3 => exact cb_)
           (case side4 => exact HC1_3.out)
           rintro e w142 ⟨v138, v143, rfl, ho0, ho1, hb⟩
           refine ⟨_, rfl, ?_⟩
           have n0_ := Aside0.mk (Kd.S_below (by (refine Qbo ?_); exact HO107.out) hb)
           have n1_ := Aside0.mk (Kd.S_mono (Kd.S_told (Kd.S_told (Kd.S_old (by (refine Qbo ?_); exact HO110.out) hb) (Kd.S_base ho0)) (Kd.R_base ho1)) (fun _ h_ => h_.1))
           have n2_ := Aside0.mk (Kd.R_elder' (by (refine QbI ?_); exact HO115.out) (Kd.R_base ho1) hb)
           have n3_ := Aside0.mk (Kd.S_below (by (refine Qbo ?_); exact HO120.out) hb)
           have n4_ := Aside0.mk (Kd.S_mono (Kd.S_told (Kd.S_told (Kd.S_old (by (refine Qbo ?_); exact HO124.out) hb) (Kd.S_base ho0)) (Kd.R_base ho1)) (fun _ h_ => h_.1))
           have n5_ := Aside0.mk (Kd.R_elder' (by (refine QbI ?_); exact HO129.out) (Kd.R_base ho1) hb)
           have n6_ := Aside0.mk (Kd.S_below (by (refine Qbo ?_); exact HO135.out) hb)
           have n7_ := Aside0.mk (Kd.S_lower (Kd.S_new' (Kd.S_new' (Kd.S_new' (Kd.S_new' ho0 (Kd.S_lt (by (refine Qbo ?_); exact HO110.out))) (Kd.R_lt (by (refine QbI ?_); exact HO115.out))) (Kd.S_lt (by (refine Qbo ?_); exact HO124.out))) (Kd.R_lt (by (refine QbI ?_); exact HO129.out))) (QaE (bw_)))
           have n8_ := Aside0.mk (Kd.R_lower (Kd.R_new' (Kd.R_new' ho1 (Kd.R_lt (by (refine QbI ?_); exact HO115.out))) (Kd.R_lt (by (refine QbI ?_); exact HO129.out))) (QaE (bw_)))
           have n9_ := Aside0.mk (bb_ BK101 hb)
           have n10_ := Aside0.mk (bb_ BK102 hb)
           have n11_ := Aside0.mk (bb_ BK121 hb)
           have n12_ := Aside0.mk (bb_ BK131 hb)
           have n13_ := Aside0.mk (Qac (bw_) hb)
           clear HO107
           clear HO110
           clear HO115
           clear HO120
           clear HO124
           clear HO129
           clear HO135
           clear BK101
           clear BK102
           clear BK121
           clear BK131
           clear HB
           have HO107 := n0_
           have HO110 := n1_
           have HO115 := n2_
           have HO120 := n3_
           have HO124 := n4_
           have HO129 := n5_
           have HO135 := n6_
           have HO139 := n7_
           have HO144 := n8_
           have BK101 := n9_
           have BK102 := n10_
           have BK121 := n11_
           have BK131 := n12_
           have HB := n13_
           clear n0_ n1_ n2_ n3_ n4_ n5_ n6_ n7_ n8_ n9_ n10_ n11_ n12_ n13_
           (try clear hb)
           (try clear hb2)
           (try clear hk)
           (try clear hi)
           (try clear ho0)
           (try clear ho1)
           obtain ⟨Ao143, co143, eo143⟩ := Kd.S_slice HO139.out
           (first | subst eo143 | (injection eo143 with f1_ f2_ f3_; have f4_ := f1_.symm; have f5_ := f3_.symm; clear f1_ f2_ f3_; subst f4_; subst f5_))
           obtain ⟨Ao144, co144, eo144⟩ := Kd.R_slice HO144.out
           (first | subst eo144 | (injection eo144 with f1_ f2_ f3_; have f4_ := f1_.symm; have f5_ := f3_.symm; clear f1_ f2_ f3_; subst f4_; subst f5_))
           refine hK.out _ _ ⟨(Qab BK131.out 0).trans rfl, (Qab BK131.out 1).trans rfl, (Qab BK131.out 2).trans rfl, (Qab BK131.out 3).trans rfl, (Qab BK131.out 4).trans rfl, (Qab BK102.out 0).trans rfl, (Qab BK102.out 1).trans rfl, (Qab BK102.out 2).trans rfl, (Qab BK102.out 3).trans rfl, (Qab BK102.out 4).trans rfl⟩ (fun hHeld => ?_)
           clear hK K
           refine QbK (a' := ?_) ?_ ?_
           rotate_left
           · show Act.put _ (some 42) _ = _
             simp only [Act.put, List.setIfInBounds_toArray, List.set_cons_zero, List.set_cons_succ, QbA, QbB]
             rfl
           refine Qcx (i := 3) (N := some 43) #[true, true, true, true, false] rfl rfl (by kernel_rfl) (by decide) (fun K hK => ?_)
           refine QbL Try.func30 (by kernel_rfl) rfl #[.agg #[.slice Ao129 t122.length co129, .int .i64 t125, .int .i64 t126, .slice Ao134 t127.length co134, .int .i64 t130], .agg #[.slice Ao143 t137.length co143, .int .i64 t140, .int .i64 t141, .slice Ao144 t142.length co144, .int .i64 t145]] (by rfl) rfl rfl (by (try simp only [List.map_toArray, List.map_cons, List.map_nil]); first | done | rfl | (simp only [List.length_drop, List.length_take]; rfl)) ?_
           with_reducible refine (Qbf.calls k _ _ t122 t125 t126 _ _ t127 t130 _ _ t137 t140 t141 _ _ t142 t145 false _ ?side1 ?side2 ?side3 ?side4 ?side5 ?side6 ?side7 ?side8 A62.out).mono ?_
           (case side1 => repeat (first | exact (Kd.S_reads' HO124.out).2.2 | (with_reducible refine Kd.C_alloc ?_ _) | (with_reducible refine Kd.C_drewN ?_ _) | (with_reducible refine Kd.C_drew ?_)))
           (case side2 => exact (Kd.S_reads' HO124.out).2.1)
           (case side3 => repeat (first | exact (Kd.R_reads' HO129.out).2.2 | (with_reducible refine Kd.C_alloc ?_ _) | (with_reducible refine Kd.C_drewN ?_ _) | (with_reducible refine Kd.C_drew ?_)))
           (case side4 => exact (Kd.R_reads' HO129.out).2.1)
           (case side5 => repeat (first | exact (Kd.S_reads' HO139.out).2.2 | (with_reducible refine Kd.C_alloc ?_ _) | (with_reducible refine Kd.C_drewN ?_ _) | (with_reducible refine Kd.C_drew ?_)))
           (case side6 => exact (Kd.S_reads' HO139.out).2.1)
           (case side7 => repeat (first | exact (Kd.R_reads' HO144.out).2.2 | (with_reducible refine Kd.C_alloc ?_ _) | (with_reducible refine Kd.C_drewN ?_ _) | (with_reducible refine Kd.C_drew ?_)))
           (case side8 => exact (Kd.R_reads' HO144.out).2.1)
           rintro e w145 ⟨rfl, hb⟩
           refine ⟨_, rfl, ?_⟩
           have n0_ := Aside0.mk (Kd.S_below (by (refine Qbo ?_); exact HO107.out) hb)
           have n1_ := Aside0.mk (Kd.S_below (by (refine Qbo ?_); exact HO110.out) hb)
           have n2_ := Aside0.mk (Kd.R_below (by (refine QbI ?_); exact HO115.out) hb)
           have n3_ := Aside0.mk (Kd.S_below (by (refine Qbo ?_); exact HO120.out) hb)
           have n4_ := Aside0.mk (Kd.S_below (by (refine Qbo ?_); exact HO124.out) hb)
           have n5_ := Aside0.mk (Kd.R_below (by (refine QbI ?_); exact HO129.out) hb)
           have n6_ := Aside0.mk (Kd.S_below (by (refine Qbo ?_); exact HO135.out) hb)
           have n7_ := Aside0.mk (Kd.S_below (by (refine Qbo ?_); exact HO139.out) hb)
           have n8_ := Aside0.mk (Kd.R_below (by (refine QbI ?_); exact HO144.out) hb)
           have n9_ := Aside0.mk (bb_ BK101 hb)
           have n10_ := Aside0.mk (bb_ BK102 hb)
           have n11_ := Aside0.mk (bb_ BK121 hb)
           have n12_ := Aside0.mk (bb_ BK131 hb)
           have n13_ := Aside0.mk (Qac (bw_) hb)
           clear HO107
           clear HO110
           clear HO115
           clear HO120
           clear HO124
           clear HO129
           clear HO135
           clear HO139
           clear HO144
           clear BK101
           clear BK102
           clear BK121
           clear BK131
           clear HB
           have HO107 := n0_
           have HO110 := n1_
           have HO115 := n2_
           have HO120 := n3_
           have HO124 := n4_
           have HO129 := n5_
           have HO135 := n6_
           have HO139 := n7_
           have HO144 := n8_
           have BK101 := n9_
           have BK102 := n10_
           have BK121 := n11_
           have BK131 := n12_
           have HB := n13_
           clear n0_ n1_ n2_ n3_ n4_ n5_ n6_ n7_ n8_ n9_ n10_ n11_ n12_ n13_
           (try clear hb)
           (try clear hb2)
           (try clear hk)
           (try clear hi)
           refine hK.out _ _ ⟨(Qab BK131.out 0).trans rfl, (Qab BK131.out 1).trans rfl, (Qab BK131.out 2).trans rfl, (Qab BK131.out 3).trans rfl, (Qab BK131.out 4).trans rfl, (Qab BK102.out 0).trans rfl, (Qab BK102.out 1).trans rfl, (Qab BK102.out 2).trans rfl, (Qab BK102.out 3).trans rfl, (Qab BK102.out 4).trans rfl⟩ (fun hHeld => ?_)
           clear hK K
           refine QbK (a' := ?_) ?_ ?_
           rotate_left
           · show Act.put _ (some 43) _ = _
             simp only [Act.put, List.setIfInBounds_toArray, List.set_cons_zero, List.set_cons_succ, QbA, QbB]
             rfl
           refine pu_ 4 (some 44) #[true, true, true, true, true] rfl rfl ?_
           refine Qcc (by kernel_rfl) ?_
           try go_wp2
           go_ret
           exact ⟨by first | rfl | (simp [Qaf, Qag] <;> rfl) | (simp [*, Qaf, Qag] <;> rfl), bw_⟩
       · replace c60 := Bool.eq_false_iff.mpr c60
         subst c60
         have H1 : (some false) = some r := by rw [if_neg (show ¬ (false = true) by decide)] at H; exact H
         clear H
         have H := H1
         clear H1
         obtain rfl := Option.some.inj H
         go_enter Try.func8, Try.ntmps8
         try go_wp2_with (first | ((with_reducible refine Qaq (N := 2) rfl ?_); refine Qam ?hg (N := 2) ?hd (cs := #[.slice A0_0 l0_0.length c0_0]) (t := 41) ?hr ?_; (case hd => rfl); (case hg => rfl); (case hr => first | (go_simp; done) | (go_simp; rfl)); intro gb101 hg w146 hbox hb; have n0_ := Aside0.mk (Qac (bw_) hb); have n1_ := Aside0.mk (hbox); have n2_ := Aside0.mk ((gs_ hg bw_ : w.heap.size ≤ gb101)); have n3_ := Aside0.mk ((gs_ hg bw_ : w.heap.size ≤ gb101)); clear HB; have HB := n0_; have BK101 := n1_; have GW101 := n2_; have GE101 := n3_; clear n0_ n1_ n2_ n3_; clear hb hbox hg) | ((with_reducible refine Qaq (N := 3) rfl ?_); refine Qam ?hg (N := 3) ?hd (cs := #[.slice A1_0 l1_0.length c1_0, .int .i64 a1_1, .int .i64 a1_2, .slice A1_3 l1_3.length c1_3, .int .i64 a1_4]) (t := 61) ?hr ?_; (case hd => rfl); (case hg => rfl); (case hr => first | (go_simp; done) | (go_simp; rfl)); intro gb102 hg w147 hbox hb; have n0_ := Aside0.mk (bb_ BK101 hb); have n1_ := Aside0.mk (Qac (bw_) hb); have n2_ := Aside0.mk (hbox); have n3_ := Aside0.mk ((gs_ hg bw_ : w.heap.size ≤ gb102)); have n4_ := Aside0.mk ((gs_ hg bw_ : w.heap.size ≤ gb102)); have n5_ := Aside0.mk ((nl_ hg BK101 : gb101 ≠ gb102)); have n6_ := Aside0.mk ((ng_ hg BK101 : gb102 ≠ gb101)); clear BK101; clear HB; have BK101 := n0_; have HB := n1_; have BK102 := n2_; have GW102 := n3_; have GE102 := n4_; have NB101_102 := n5_; have NB102_101 := n6_; clear n0_ n1_ n2_ n3_ n4_ n5_ n6_; clear hb hbox hg; have hnb148 := NB101_102.out; have hnc148 := NB102_101.out; obtain ⟨hcz149_0, hfz149_0⟩ := QbM BK101.out) | ((with_reducible refine Qal (f := 26) rfl ?_); refine QaU (some 12) rfl rfl Try.func26 (by kernel_rfl) rfl #[.agg #[.slice A0_0 l0_0.length c0_0], .int .i64 1048576] rfl (by (try simp only [List.map_toArray, List.map_cons, List.map_nil]); first | done | rfl | (simp only [List.length_drop, List.length_take]; rfl)) ?_; (with_reducible refine (Qbs.calls k _ _ l0_0 1048576 t103 _ ?side1 ?side2 A3.out).mono ?_); (case side1 => exact cb_); (case side2 => exact HC0_0.out); rintro e w150 ⟨rfl, hb⟩; refine ⟨_, rfl, ?_⟩; have n0_ := Aside0.mk (bb_ BK101 hb); have n1_ := Aside0.mk (bb_ BK102 hb); have n2_ := Aside0.mk (Qac (bw_) hb); clear BK101; clear BK102; clear HB; have BK101 := n0_; have BK102 := n1_; have HB := n2_; clear n0_ n1_ n2_; (try clear hb); (try clear hb2); (try clear hk); (try clear hi); obtain ⟨hcz151_0, hcz151_1, hcz151_2, hcz151_3, hcz151_4, hfz151_0, hfz151_1, hfz151_2, hfz151_3, hfz151_4⟩ := Qbe BK102.out) | ((with_reducible refine Qal (f := 41) rfl ?_); refine QaU (some 17) rfl rfl Try.func41 (by kernel_rfl) rfl #[.agg #[.slice A1_0 l1_0.length c1_0, .int .i64 a1_1, .int .i64 a1_2, .slice A1_3 l1_3.length c1_3, .int .i64 a1_4], .int .i64 t103] rfl (by (try simp only [List.map_toArray, List.map_cons, List.map_nil]); first | done | rfl | (simp only [List.length_drop, List.length_take]; rfl)) ?_; (with_reducible refine (Qbr.calls k _ _ l1_0 a1_1 a1_2 _ _ l1_3 a1_4 t103 t104 _ ?side1 ?side2 ?side3 ?side4 A10.out).mono ?_); (case side1 => exact cb_); (case side2 => exact HC1_0.out); (case side3 => exact cb_); (case side4 => exact HC1_3.out); rintro e w152 ⟨rfl, hb⟩; refine ⟨_, rfl, ?_⟩; have n0_ := Aside0.mk (bb_ BK101 hb); have n1_ := Aside0.mk (bb_ BK102 hb); have n2_ := Aside0.mk (Qac (bw_) hb); clear BK101; clear BK102; clear HB; have BK101 := n0_; have BK102 := n1_; have HB := n2_; clear n0_ n1_ n2_; (try clear hb); (try clear hb2); (try clear hk); (try clear hi)))
         have n0_ := Aside0.mk (Qa2 BK101.out)
         have n1_ := Aside0.mk (Qa2 BK102.out)
         have n2_ := Aside0.mk (Qa7 HB.out)
         clear BK101
         clear BK102
         clear HB
         have BK101 := n0_
         have BK102 := n1_
         have HB := n2_
         clear n0_ n1_ n2_
         refine QbP (n := 6) (S := fun w' => w'.cell? ⟨gb101, 0, none⟩ = some (.slice A0_0 l0_0.length c0_0) ∧ w'.cell? ⟨gb102, 0, none⟩ = some (.slice A1_0 l1_0.length c1_0) ∧ w'.cell? ⟨gb102, 1, none⟩ = some (.int .i64 a1_1) ∧ w'.cell? ⟨gb102, 2, none⟩ = some (.int .i64 a1_2) ∧ w'.cell? ⟨gb102, 3, none⟩ = some (.slice A1_3 l1_3.length c1_3) ∧ w'.cell? ⟨gb102, 4, none⟩ = some (.int .i64 a1_4)) (ds := []) #[false, false, false, false, false, false] (by kernel_rfl) rfl rfl ⟨(Qab BK101.out 0).trans rfl, (Qab BK102.out 0).trans rfl, (Qab BK102.out 1).trans rfl, (Qab BK102.out 2).trans rfl, (Qab BK102.out 3).trans rfl, (Qab BK102.out 4).trans rfl⟩ (fun hHeld => ?_)
         generalize w152.drew = w153 at BK101 BK102 HB hHeld ⊢
         refine tk_ 0 (some 20) #[true, false, false, false, false, false] rfl rfl hHeld ?_
         refine tk_ 2 (some 22) #[true, false, true, false, false, false] rfl rfl hHeld ?_
         refine Qcx (i := 1) (N := some 21) #[true, true, true, false, false, false] rfl rfl (by kernel_rfl) (by decide) (fun K hK => ?_)
         refine QbL Try.func28 (by kernel_rfl) rfl #[.agg #[.slice A0_0 l0_0.length c0_0]] (by rfl) rfl rfl (by (try simp only [List.map_toArray, List.map_cons, List.map_nil]); first | done | rfl | (simp only [List.length_drop, List.length_take]; rfl)) ?_
         with_reducible refine (QaT.calls k _ _ l0_0 t105 _ ?side1 ?side2 A19.out).mono ?_
         (case side1 => exact cb_)
         (case side2 => exact HC0_0.out)
         rintro e w154 ⟨v106, rfl, ho0, hb⟩
         refine ⟨_, rfl, ?_⟩
         have n0_ := Aside0.mk (Kd.S_lower ho0 (QaE (bw_)))
         have n1_ := Aside0.mk (bb_ BK101 hb)
         have n2_ := Aside0.mk (bb_ BK102 hb)
         have n3_ := Aside0.mk (Qac (bw_) hb)
         clear BK101
         clear BK102
         clear HB
         have HO107 := n0_
         have BK101 := n1_
         have BK102 := n2_
         have HB := n3_
         clear n0_ n1_ n2_ n3_
         (try clear hb)
         (try clear hb2)
         (try clear hk)
         (try clear hi)
         (try clear ho0)
         refine hK.out _ _ ⟨(Qab BK101.out 0).trans rfl, (Qab BK102.out 0).trans rfl, (Qab BK102.out 1).trans rfl, (Qab BK102.out 2).trans rfl, (Qab BK102.out 3).trans rfl, (Qab BK102.out 4).trans rfl⟩ (fun hHeld => ?_)
         clear hK K
         refine QbK (a' := ?_) ?_ ?_
         rotate_left
         · show Act.put _ (some 21) _ = _
           simp only [Act.put, List.setIfInBounds_toArray, List.set_cons_zero, List.set_cons_succ, QbA, QbB]
           rfl
         refine Qcx (i := 3) (N := some 23) #[true, true, true, true, false, false] rfl rfl (by kernel_rfl) (by decide) (fun K hK => ?_)
         refine QbL Try.func43 (by kernel_rfl) rfl #[.agg #[.slice A1_0 l1_0.length c1_0, .int .i64 a1_1, .int .i64 a1_2, .slice A1_3 l1_3.length c1_3, .int .i64 a1_4]] (by rfl) rfl rfl (by (try simp only [List.map_toArray, List.map_cons, List.map_nil]); first | done | rfl | (simp only [List.length_drop, List.length_take]; rfl)) ?_
         with_reducible refine (QaK.calls k _ _ l1_0 a1_1 a1_2 _ _ l1_3 a1_4 t108 t111 t112 t113 t116 _ ?side1 ?side2 ?side3 ?side4 A20.out).mono ?_
         (case side1 => exact cb_)
         (case side2 => exact HC1_0.out)
         (case side3 => exact cb_)
         (case side4 => exact HC1_3.out)
         rintro e w155 ⟨v109, v114, rfl, ho0, ho1, hb⟩
         refine ⟨_, rfl, ?_⟩
         have n0_ := Aside0.mk (Kd.S_below (by (refine Qbo ?_); exact HO107.out) hb)
         have n1_ := Aside0.mk (Kd.S_lower ho0 (QaE (bw_)))
         have n2_ := Aside0.mk (Kd.R_lower ho1 (QaE (bw_)))
         have n3_ := Aside0.mk (bb_ BK101 hb)
         have n4_ := Aside0.mk (bb_ BK102 hb)
         have n5_ := Aside0.mk (Qac (bw_) hb)
         clear HO107
         clear BK101
         clear BK102
         clear HB
         have HO107 := n0_
         have HO110 := n1_
         have HO115 := n2_
         have BK101 := n3_
         have BK102 := n4_
         have HB := n5_
         clear n0_ n1_ n2_ n3_ n4_ n5_
         (try clear hb)
         (try clear hb2)
         (try clear hk)
         (try clear hi)
         (try clear ho0)
         (try clear ho1)
         obtain ⟨Ao156, co156, eo156⟩ := Kd.S_slice HO107.out
         (first | subst eo156 | (injection eo156 with f1_ f2_ f3_; have f4_ := f1_.symm; have f5_ := f3_.symm; clear f1_ f2_ f3_; subst f4_; subst f5_))
         obtain ⟨Ao157, co157, eo157⟩ := Kd.S_slice HO110.out
         (first | subst eo157 | (injection eo157 with f1_ f2_ f3_; have f4_ := f1_.symm; have f5_ := f3_.symm; clear f1_ f2_ f3_; subst f4_; subst f5_))
         obtain ⟨Ao158, co158, eo158⟩ := Kd.R_slice HO115.out
         (first | subst eo158 | (injection eo158 with f1_ f2_ f3_; have f4_ := f1_.symm; have f5_ := f3_.symm; clear f1_ f2_ f3_; subst f4_; subst f5_))
         refine hK.out _ _ ⟨(Qab BK101.out 0).trans rfl, (Qab BK102.out 0).trans rfl, (Qab BK102.out 1).trans rfl, (Qab BK102.out 2).trans rfl, (Qab BK102.out 3).trans rfl, (Qab BK102.out 4).trans rfl⟩ (fun hHeld => ?_)
         clear hK K
         refine QbK (a' := ?_) ?_ ?_
         rotate_left
         · show Act.put _ (some 23) _ = _
           simp only [Act.put, List.setIfInBounds_toArray, List.set_cons_zero, List.set_cons_succ, QbA, QbB]
           rfl
         refine Qcx (i := 4) (N := some 24) #[true, true, true, true, true, false] rfl rfl (by kernel_rfl) (by decide) (fun K hK => ?_)
         refine QbL Try.func42 (by kernel_rfl) rfl #[.agg #[.slice Ao156 t105.length co156], .agg #[.slice Ao157 t108.length co157, .int .i64 t111, .int .i64 t112, .slice Ao158 t113.length co158, .int .i64 t116]] (by rfl) rfl rfl (by (try simp only [List.map_toArray, List.map_cons, List.map_nil]); first | done | rfl | (simp only [List.length_drop, List.length_take]; rfl)) ?_
         with_reducible refine (Qah.calls k _ _ t105 _ _ t108 t111 t112 _ _ t113 t116 t117 _ ?side1 ?side2 ?side3 ?side4 ?side5 ?side6 A21.out).mono ?_
         (case side1 => repeat (first | exact (Kd.S_reads' HO107.out).2.2 | (with_reducible refine Kd.C_alloc ?_ _) | (with_reducible refine Kd.C_drewN ?_ _) | (with_reducible refine Kd.C_drew ?_)))
         (case side2 => exact (Kd.S_reads' HO107.out).2.1)
         (case side3 => repeat (first | exact (Kd.S_reads' HO110.out).2.2 | (with_reducible refine Kd.C_alloc ?_ _) | (with_reducible refine Kd.C_drewN ?_ _) | (with_reducible refine Kd.C_drew ?_)))
         (case side4 => exact (Kd.S_reads' HO110.out).2.1)
         (case side5 => repeat (first | exact (Kd.R_reads' HO115.out).2.2 | (with_reducible refine Kd.C_alloc ?_ _) | (with_reducible refine Kd.C_drewN ?_ _) | (with_reducible refine Kd.C_drew ?_)))
         (case side6 => exact (Kd.R_reads' HO115.out).2.1)
         rintro e w159 ⟨rfl, hb⟩
         refine ⟨_, rfl, ?_⟩
         have n0_ := Aside0.mk (Kd.S_below (by (refine Qbo ?_); exact HO107.out) hb)
         have n1_ := Aside0.mk (Kd.S_below (by (refine Qbo ?_); exact HO110.out) hb)
         have n2_ := Aside0.mk (Kd.R_below (by (refine QbI ?_); exact HO115.out) hb)
         have n3_ := Aside0.mk (bb_ BK101 hb)
         have n4_ := Aside0.mk (bb_ BK102 hb)
         have n5_ := Aside0.mk (Qac (bw_) hb)
         clear HO107
         clear HO110
         clear HO115
         clear BK101
         clear BK102
         clear HB
         have HO107 := n0_
         have HO110 := n1_
         have HO115 := n2_
         have BK101 := n3_
         have BK102 := n4_
         have HB := n5_
         clear n0_ n1_ n2_ n3_ n4_ n5_
         (try clear hb)
         (try clear hb2)
         (try clear hk)
         (try clear hi)
         refine hK.out _ _ ⟨(Qab BK101.out 0).trans rfl, (Qab BK102.out 0).trans rfl, (Qab BK102.out 1).trans rfl, (Qab BK102.out 2).trans rfl, (Qab BK102.out 3).trans rfl, (Qab BK102.out 4).trans rfl⟩ (fun hHeld => ?_)
         clear hK K
         refine QbK (a' := ?_) ?_ ?_
         rotate_left
         · show Act.put _ (some 24) _ = _
           simp only [Act.put, List.setIfInBounds_toArray, List.set_cons_zero, List.set_cons_succ, QbA, QbB]
           rfl
         refine pu_ 5 (some 6) #[true, true, true, true, true, true] rfl rfl ?_
         refine Qcc (by kernel_rfl) ?_
         have hcz160_0 : w159.cell? ⟨gb101, 0, none⟩ = some (.slice A0_0 l0_0.length c0_0) := (Qab BK101.out 0).trans rfl
         have hfz160_0 := Qad BK101.out 0
         try go_wp2_with (first | ((with_reducible refine Qal (f := 28) rfl ?_); refine QaU (some 26) rfl rfl Try.func28 (by kernel_rfl) rfl #[.agg #[.slice A0_0 l0_0.length c0_0]] rfl (by (try simp only [List.map_toArray, List.map_cons, List.map_nil]); first | done | rfl | (simp only [List.length_drop, List.length_take]; rfl)) ?_; (with_reducible refine (QaT.calls k _ _ l0_0 t118 _ ?side1 ?side2 A22.out).mono ?_); (case side1 => exact cb_); (case side2 => exact HC0_0.out); rintro e w161 ⟨v119, rfl, ho0, hb⟩; refine ⟨_, rfl, ?_⟩; have n0_ := Aside0.mk (Kd.S_elder' (by (refine Qbo ?_); exact HO107.out) (Kd.S_base ho0) hb); have n1_ := Aside0.mk (Kd.S_below (by (refine Qbo ?_); exact HO110.out) hb); have n2_ := Aside0.mk (Kd.R_below (by (refine QbI ?_); exact HO115.out) hb); have n3_ := Aside0.mk (Kd.S_lower (Kd.S_new' ho0 (Kd.S_lt (by (refine Qbo ?_); exact HO107.out))) (QaE (bw_))); have n4_ := Aside0.mk (bb_ BK101 hb); have n5_ := Aside0.mk (bb_ BK102 hb); have n6_ := Aside0.mk (Qac (bw_) hb); clear HO107; clear HO110; clear HO115; clear BK101; clear BK102; clear HB; have HO107 := n0_; have HO110 := n1_; have HO115 := n2_; have HO120 := n3_; have BK101 := n4_; have BK102 := n5_; have HB := n6_; clear n0_ n1_ n2_ n3_ n4_ n5_ n6_; (try clear hb); (try clear hb2); (try clear hk); (try clear hi); (try clear ho0)) | ((with_reducible refine Qaq (N := 7) rfl ?_); refine Qam ?hg (N := 7) ?hd (cs := #[.slice none 0 0]) (t := 25) ?hr ?_; (case hd => rfl); (case hg => rfl); (case hr => first | (go_simp; done) | (go_simp; rfl)); intro gb121 hg w162 hbox hb; have n0_ := Aside0.mk (Kd.S_below (by (refine Qbo ?_); exact HO107.out) hb); have n1_ := Aside0.mk (Kd.S_below (by (refine Qbo ?_); exact HO110.out) hb); have n2_ := Aside0.mk (Kd.R_below (by (refine QbI ?_); exact HO115.out) hb); have n3_ := Aside0.mk (Kd.S_below (by (refine Qbo ?_); exact HO120.out) hb); have n4_ := Aside0.mk (bb_ BK101 hb); have n5_ := Aside0.mk (bb_ BK102 hb); have n6_ := Aside0.mk (Qac (bw_) hb); have n7_ := Aside0.mk (hbox); have n8_ := Aside0.mk ((gs_ hg bw_ : w.heap.size ≤ gb121)); have n9_ := Aside0.mk ((gs_ hg bw_ : w.heap.size ≤ gb121)); have n10_ := Aside0.mk ((nl_ hg BK101 : gb101 ≠ gb121)); have n11_ := Aside0.mk ((ng_ hg BK101 : gb121 ≠ gb101)); have n12_ := Aside0.mk ((nl_ hg BK102 : gb102 ≠ gb121)); have n13_ := Aside0.mk ((ng_ hg BK102 : gb121 ≠ gb102)); clear HO107; clear HO110; clear HO115; clear HO120; clear BK101; clear BK102; clear HB; have HO107 := n0_; have HO110 := n1_; have HO115 := n2_; have HO120 := n3_; have BK101 := n4_; have BK102 := n5_; have HB := n6_; have BK121 := n7_; have GW121 := n8_; have GE121 := n9_; have NB101_121 := n10_; have NB121_101 := n11_; have NB102_121 := n12_; have NB121_102 := n13_; clear n0_ n1_ n2_ n3_ n4_ n5_ n6_ n7_ n8_ n9_ n10_ n11_ n12_ n13_; clear hb hbox hg; obtain ⟨Ao163, co163, eo163⟩ := Kd.S_slice HO120.out; subst eo163; have hnb164 := NB121_101.out; have hnc164 := NB101_121.out; have hnb165 := NB121_102.out; have hnc165 := NB102_121.out; obtain ⟨hcz166_0, hfz166_0⟩ := QbM BK121.out; obtain ⟨hcz167_0, hcz167_1, hcz167_2, hcz167_3, hcz167_4, hfz167_0, hfz167_1, hfz167_2, hfz167_3, hfz167_4⟩ := Qbe BK102.out) | ((with_reducible refine Qal (f := 43) rfl ?_); refine QaU (some 28) rfl rfl Try.func43 (by kernel_rfl) rfl #[.agg #[.slice A1_0 l1_0.length c1_0, .int .i64 a1_1, .int .i64 a1_2, .slice A1_3 l1_3.length c1_3, .int .i64 a1_4]] rfl (by (try simp only [List.map_toArray, List.map_cons, List.map_nil]); first | done | rfl | (simp only [List.length_drop, List.length_take]; rfl)) ?_; (with_reducible refine (QaK.calls k _ _ l1_0 a1_1 a1_2 _ _ l1_3 a1_4 t122 t125 t126 t127 t130 _ ?side1 ?side2 ?side3 ?side4 A23.out).mono ?_); (case side1 => exact Kd.C_below HR1_0.out (bw_)); (case side2 => exact HC1_0.out); (case side3 => exact Kd.C_below HR1_3.out (bw_)); (case side4 => exact HC1_3.out); rintro e w168 ⟨v123, v128, rfl, ho0, ho1, hb⟩; refine ⟨_, rfl, ?_⟩; have n0_ := Aside0.mk (Kd.S_below (by (refine Qbo ?_); exact (Kd.S_mono (Kd.S_far (p := ⟨gb121, 0, none⟩) (Kd.S_types HO107.out BK121.out (by decide)) (fun _ hk => hk.2) (.slice Ao163 t118.length co163)) (fun _ h_ => h_.1))) hb); have n1_ := Aside0.mk (Kd.S_mono (Kd.S_told (Kd.S_told (Kd.S_old (by (refine Qbo ?_); exact (Kd.S_mono (Kd.S_far (p := ⟨gb121, 0, none⟩) (Kd.S_types HO110.out BK121.out (by decide)) (fun _ hk => hk.2) (.slice Ao163 t118.length co163)) (fun _ h_ => h_.1))) hb) (Kd.S_base ho0)) (Kd.R_base ho1)) (fun _ h_ => h_.1)); have n2_ := Aside0.mk (Kd.R_elder' (by (refine QbI ?_); exact (Kd.R_mono (Kd.R_far (p := ⟨gb121, 0, none⟩) (Kd.R_types HO115.out BK121.out (by decide)) (fun _ hk => hk.2) (.slice Ao163 t118.length co163)) (fun _ h_ => h_.1))) (Kd.R_base ho1) hb); have n3_ := Aside0.mk (Kd.S_below (by (refine Qbo ?_); exact (Kd.S_mono (Kd.S_far (p := ⟨gb121, 0, none⟩) (Kd.S_types HO120.out BK121.out (by decide)) (fun _ hk => hk.2) (.slice Ao163 t118.length co163)) (fun _ h_ => h_.1))) hb); have n4_ := Aside0.mk (Kd.S_lower (Kd.S_new' (Kd.S_new' ho0 (Kd.S_lt (by (refine Qbo ?_); exact (Kd.S_mono (Kd.S_far (p := ⟨gb121, 0, none⟩) (Kd.S_types HO110.out BK121.out (by decide)) (fun _ hk => hk.2) (.slice Ao163 t118.length co163)) (fun _ h_ => h_.1))))) (Kd.R_lt (by (refine QbI ?_); exact (Kd.R_mono (Kd.R_far (p := ⟨gb121, 0, none⟩) (Kd.R_types HO115.out BK121.out (by decide)) (fun _ hk => hk.2) (.slice Ao163 t118.length co163)) (fun _ h_ => h_.1))))) (QaE (bw_))); have n5_ := Aside0.mk (Kd.R_lower (Kd.R_new' ho1 (Kd.R_lt (by (refine QbI ?_); exact (Kd.R_mono (Kd.R_far (p := ⟨gb121, 0, none⟩) (Kd.R_types HO115.out BK121.out (by decide)) (fun _ hk => hk.2) (.slice Ao163 t118.length co163)) (fun _ h_ => h_.1))))) (QaE (bw_))); have n6_ := Aside0.mk (QaV (g := gb101) (o := .cells #[.slice A0_0 l0_0.length c0_0] 41 (0, 0)) (by (refine kb_ ?_); refine Qar ?_ NB101_121.out _; (refine kb_ ?_); exact BK101.out) hb); have n7_ := Aside0.mk (QaV (g := gb102) (o := .cells #[.slice A1_0 l1_0.length c1_0, .int .i64 a1_1, .int .i64 a1_2, .slice A1_3 l1_3.length c1_3, .int .i64 a1_4] 61 (0, 0)) (by (refine kb_ ?_); refine Qar ?_ NB102_121.out _; (refine kb_ ?_); exact BK102.out) hb); have n8_ := Aside0.mk (QaV (g := gb121) (o := .cells #[.slice Ao163 t118.length co163] 25 (0, 0)) (by (refine kb_ ?_); refine Qa1 (cs := #[.slice none 0 0]) ?_ 0 _ rfl; (refine kb_ ?_); exact BK121.out) hb); have n9_ := Aside0.mk (Qac (bw_) hb); clear HO107; clear HO110; clear HO115; clear HO120; clear BK101; clear BK102; clear BK121; clear HB; have HO107 := n0_; have HO110 := n1_; have HO115 := n2_; have HO120 := n3_; have HO124 := n4_; have HO129 := n5_; have BK101 := n6_; have BK102 := n7_; have BK121 := n8_; have HB := n9_; clear n0_ n1_ n2_ n3_ n4_ n5_ n6_ n7_ n8_ n9_; (try clear hb); (try clear hb2); (try clear hk); (try clear hi); (try clear ho0); (try clear ho1)) | ((with_reducible refine Qaq (N := 8) rfl ?_); refine Qam ?hg (N := 8) ?hd (cs := #[.slice none 0 0, .int .i64 0, .int .i64 0, .slice none 0 0, .int .i64 0]) (t := 46) ?hr ?_; (case hd => rfl); (case hg => rfl); (case hr => first | (go_simp; done) | (go_simp; rfl)); intro gb131 hg w169 hbox hb; have n0_ := Aside0.mk (Kd.S_below (by (refine Qbo ?_); exact HO107.out) hb); have n1_ := Aside0.mk (Kd.S_below (by (refine Qbo ?_); exact HO110.out) hb); have n2_ := Aside0.mk (Kd.R_below (by (refine QbI ?_); exact HO115.out) hb); have n3_ := Aside0.mk (Kd.S_below (by (refine Qbo ?_); exact HO120.out) hb); have n4_ := Aside0.mk (Kd.S_below (by (refine Qbo ?_); exact HO124.out) hb); have n5_ := Aside0.mk (Kd.R_below (by (refine QbI ?_); exact HO129.out) hb); have n6_ := Aside0.mk (bb_ BK101 hb); have n7_ := Aside0.mk (bb_ BK102 hb); have n8_ := Aside0.mk (bb_ BK121 hb); have n9_ := Aside0.mk (Qac (bw_) hb); have n10_ := Aside0.mk (hbox); have n11_ := Aside0.mk ((gs_ hg bw_ : w.heap.size ≤ gb131)); have n12_ := Aside0.mk ((gs_ hg bw_ : w.heap.size ≤ gb131)); have n13_ := Aside0.mk ((nl_ hg BK101 : gb101 ≠ gb131)); have n14_ := Aside0.mk ((ng_ hg BK101 : gb131 ≠ gb101)); have n15_ := Aside0.mk ((nl_ hg BK102 : gb102 ≠ gb131)); have n16_ := Aside0.mk ((ng_ hg BK102 : gb131 ≠ gb102)); have n17_ := Aside0.mk ((nl_ hg BK121 : gb121 ≠ gb131)); have n18_ := Aside0.mk ((ng_ hg BK121 : gb131 ≠ gb121)); clear HO107; clear HO110; clear HO115; clear HO120; clear HO124; clear HO129; clear BK101; clear BK102; clear BK121; clear HB; have HO107 := n0_; have HO110 := n1_; have HO115 := n2_; have HO120 := n3_; have HO124 := n4_; have HO129 := n5_; have BK101 := n6_; have BK102 := n7_; have BK121 := n8_; have HB := n9_; have BK131 := n10_; have GW131 := n11_; have GE131 := n12_; have NB101_131 := n13_; have NB131_101 := n14_; have NB102_131 := n15_; have NB131_102 := n16_; have NB121_131 := n17_; have NB131_121 := n18_; clear n0_ n1_ n2_ n3_ n4_ n5_ n6_ n7_ n8_ n9_ n10_ n11_ n12_ n13_ n14_ n15_ n16_ n17_ n18_; clear hb hbox hg; obtain ⟨Ao170, co170, eo170⟩ := Kd.S_slice HO124.out; subst eo170; have hnb171 := NB131_101.out; have hnc171 := NB101_131.out; have hnb172 := NB131_102.out; have hnc172 := NB102_131.out; have hnb173 := NB131_121.out; have hnc173 := NB121_131.out; obtain ⟨hcz174_0, hcz174_1, hcz174_2, hcz174_3, hcz174_4, hfz174_0, hfz174_1, hfz174_2, hfz174_3, hfz174_4⟩ := Qbe BK131.out; obtain ⟨Ao175, co175, eo175⟩ := Kd.R_slice HO129.out; subst eo175; obtain ⟨hcz176_0, hfz176_0⟩ := QbM BK121.out) | ((with_reducible refine Qal (f := 37) rfl ?_); refine QaU (some 31) rfl rfl Try.func37 (by kernel_rfl) rfl #[.agg #[.slice Ao163 t118.length co163], .agg #[.slice Ao170 t122.length co170, .int .i64 t125, .int .i64 t126, .slice Ao175 t127.length co175, .int .i64 t130]] rfl (by (try simp only [List.map_toArray, List.map_cons, List.map_nil]); first | done | rfl | (simp only [List.length_drop, List.length_take]; rfl)) ?_; (with_reducible refine (Qak.calls k _ _ t118 _ _ t122 t125 t126 _ _ t127 t130 t132 _ ?side1 ?side2 ?side3 ?side4 ?side5 ?side6 A24.out).mono ?_); (case side1 => refine (Kd.S_reads' (e := 34) (base := w.heap.size) (ok := fun k_ => (True ∧ some k_ ≠ (.slice Ao156 t105.length co156 : Value).ownBlock)) (n := t118.length) (c := co163) ?_).2.2; exact (by (refine Qbo ?_); exact (Kd.S_mono (Kd.S_far (p := ⟨gb131, 4, none⟩) (Kd.S_far (p := ⟨gb131, 3, none⟩) (Kd.S_far (p := ⟨gb131, 2, none⟩) (Kd.S_far (p := ⟨gb131, 1, none⟩) (Kd.S_far (p := ⟨gb131, 0, none⟩) (Kd.S_types HO120.out BK131.out (by decide)) (fun _ hk => hk.2) (.slice Ao170 t122.length co170)) (fun _ hk => hk.2) (.int .i64 t125)) (fun _ hk => hk.2) (.int .i64 t126)) (fun _ hk => hk.2) (.slice Ao175 t127.length co175)) (fun _ hk => hk.2) (.int .i64 t130)) (fun _ h_ => h_.1)))); (case side2 => exact (Kd.S_reads' HO120.out).2.1); (case side3 => refine (Kd.S_reads' (e := 67) (base := w.heap.size) (ok := fun k_ => ((some k_ ≠ (.slice Ao175 t127.length co175 : Value).ownBlock ∧ some k_ ≠ (.slice Ao157 t108.length co157 : Value).ownBlock) ∧ some k_ ≠ (.slice Ao158 t113.length co158 : Value).ownBlock)) (n := t122.length) (c := co170) ?_).2.2; exact (by (refine Qbo ?_); exact (Kd.S_mono (Kd.S_far (p := ⟨gb131, 4, none⟩) (Kd.S_far (p := ⟨gb131, 3, none⟩) (Kd.S_far (p := ⟨gb131, 2, none⟩) (Kd.S_far (p := ⟨gb131, 1, none⟩) (Kd.S_far (p := ⟨gb131, 0, none⟩) (Kd.S_types HO124.out BK131.out (by decide)) (fun _ hk => hk.2) (.slice Ao170 t122.length co170)) (fun _ hk => hk.2) (.int .i64 t125)) (fun _ hk => hk.2) (.int .i64 t126)) (fun _ hk => hk.2) (.slice Ao175 t127.length co175)) (fun _ hk => hk.2) (.int .i64 t130)) (fun _ h_ => h_.1)))); (case side4 => exact (Kd.S_reads' HO124.out).2.1); (case side5 => refine (Kd.R_reads' (e := 104) (base := w.heap.size) (ok := fun k_ => (True ∧ some k_ ≠ (.slice Ao158 t113.length co158 : Value).ownBlock)) (n := t127.length) (c := co175) ?_).2.2; exact (by (refine QbI ?_); exact (Kd.R_mono (Kd.R_far (p := ⟨gb131, 4, none⟩) (Kd.R_far (p := ⟨gb131, 3, none⟩) (Kd.R_far (p := ⟨gb131, 2, none⟩) (Kd.R_far (p := ⟨gb131, 1, none⟩) (Kd.R_far (p := ⟨gb131, 0, none⟩) (Kd.R_types HO129.out BK131.out (by decide)) (fun _ hk => hk.2) (.slice Ao170 t122.length co170)) (fun _ hk => hk.2) (.int .i64 t125)) (fun _ hk => hk.2) (.int .i64 t126)) (fun _ hk => hk.2) (.slice Ao175 t127.length co175)) (fun _ hk => hk.2) (.int .i64 t130)) (fun _ h_ => h_.1)))); (case side6 => exact (Kd.R_reads' HO129.out).2.1); rintro e w177 ⟨rfl, hb⟩; refine ⟨_, rfl, ?_⟩; have n0_ := Aside0.mk (Kd.S_below (by (refine Qbo ?_); exact (Kd.S_mono (Kd.S_far (p := ⟨gb131, 4, none⟩) (Kd.S_far (p := ⟨gb131, 3, none⟩) (Kd.S_far (p := ⟨gb131, 2, none⟩) (Kd.S_far (p := ⟨gb131, 1, none⟩) (Kd.S_far (p := ⟨gb131, 0, none⟩) (Kd.S_types HO107.out BK131.out (by decide)) (fun _ hk => hk.2) (.slice Ao170 t122.length co170)) (fun _ hk => hk.2) (.int .i64 t125)) (fun _ hk => hk.2) (.int .i64 t126)) (fun _ hk => hk.2) (.slice Ao175 t127.length co175)) (fun _ hk => hk.2) (.int .i64 t130)) (fun _ h_ => h_.1))) hb); have n1_ := Aside0.mk (Kd.S_below (by (refine Qbo ?_); exact (Kd.S_mono (Kd.S_far (p := ⟨gb131, 4, none⟩) (Kd.S_far (p := ⟨gb131, 3, none⟩) (Kd.S_far (p := ⟨gb131, 2, none⟩) (Kd.S_far (p := ⟨gb131, 1, none⟩) (Kd.S_far (p := ⟨gb131, 0, none⟩) (Kd.S_types HO110.out BK131.out (by decide)) (fun _ hk => hk.2) (.slice Ao170 t122.length co170)) (fun _ hk => hk.2) (.int .i64 t125)) (fun _ hk => hk.2) (.int .i64 t126)) (fun _ hk => hk.2) (.slice Ao175 t127.length co175)) (fun _ hk => hk.2) (.int .i64 t130)) (fun _ h_ => h_.1))) hb); have n2_ := Aside0.mk (Kd.R_below (by (refine QbI ?_); exact (Kd.R_mono (Kd.R_far (p := ⟨gb131, 4, none⟩) (Kd.R_far (p := ⟨gb131, 3, none⟩) (Kd.R_far (p := ⟨gb131, 2, none⟩) (Kd.R_far (p := ⟨gb131, 1, none⟩) (Kd.R_far (p := ⟨gb131, 0, none⟩) (Kd.R_types HO115.out BK131.out (by decide)) (fun _ hk => hk.2) (.slice Ao170 t122.length co170)) (fun _ hk => hk.2) (.int .i64 t125)) (fun _ hk => hk.2) (.int .i64 t126)) (fun _ hk => hk.2) (.slice Ao175 t127.length co175)) (fun _ hk => hk.2) (.int .i64 t130)) (fun _ h_ => h_.1))) hb); have n3_ := Aside0.mk (Kd.S_below (by (refine Qbo ?_); exact (Kd.S_mono (Kd.S_far (p := ⟨gb131, 4, none⟩) (Kd.S_far (p := ⟨gb131, 3, none⟩) (Kd.S_far (p := ⟨gb131, 2, none⟩) (Kd.S_far (p := ⟨gb131, 1, none⟩) (Kd.S_far (p := ⟨gb131, 0, none⟩) (Kd.S_types HO120.out BK131.out (by decide)) (fun _ hk => hk.2) (.slice Ao170 t122.length co170)) (fun _ hk => hk.2) (.int .i64 t125)) (fun _ hk => hk.2) (.int .i64 t126)) (fun _ hk => hk.2) (.slice Ao175 t127.length co175)) (fun _ hk => hk.2) (.int .i64 t130)) (fun _ h_ => h_.1))) hb); have n4_ := Aside0.mk (Kd.S_below (by (refine Qbo ?_); exact (Kd.S_mono (Kd.S_far (p := ⟨gb131, 4, none⟩) (Kd.S_far (p := ⟨gb131, 3, none⟩) (Kd.S_far (p := ⟨gb131, 2, none⟩) (Kd.S_far (p := ⟨gb131, 1, none⟩) (Kd.S_far (p := ⟨gb131, 0, none⟩) (Kd.S_types HO124.out BK131.out (by decide)) (fun _ hk => hk.2) (.slice Ao170 t122.length co170)) (fun _ hk => hk.2) (.int .i64 t125)) (fun _ hk => hk.2) (.int .i64 t126)) (fun _ hk => hk.2) (.slice Ao175 t127.length co175)) (fun _ hk => hk.2) (.int .i64 t130)) (fun _ h_ => h_.1))) hb); have n5_ := Aside0.mk (Kd.R_below (by (refine QbI ?_); exact (Kd.R_mono (Kd.R_far (p := ⟨gb131, 4, none⟩) (Kd.R_far (p := ⟨gb131, 3, none⟩) (Kd.R_far (p := ⟨gb131, 2, none⟩) (Kd.R_far (p := ⟨gb131, 1, none⟩) (Kd.R_far (p := ⟨gb131, 0, none⟩) (Kd.R_types HO129.out BK131.out (by decide)) (fun _ hk => hk.2) (.slice Ao170 t122.length co170)) (fun _ hk => hk.2) (.int .i64 t125)) (fun _ hk => hk.2) (.int .i64 t126)) (fun _ hk => hk.2) (.slice Ao175 t127.length co175)) (fun _ hk => hk.2) (.int .i64 t130)) (fun _ h_ => h_.1))) hb); have n6_ := Aside0.mk (QaV (g := gb101) (o := .cells #[.slice A0_0 l0_0.length c0_0] 41 (0, 0)) (by (refine kb_ ?_); refine Qar ?_ NB101_131.out _; (refine kb_ ?_); refine Qar ?_ NB101_131.out _; (refine kb_ ?_); refine Qar ?_ NB101_131.out _; (refine kb_ ?_); refine Qar ?_ NB101_131.out _; (refine kb_ ?_); refine Qar ?_ NB101_131.out _; (refine kb_ ?_); exact BK101.out) hb); have n7_ := Aside0.mk (QaV (g := gb102) (o := .cells #[.slice A1_0 l1_0.length c1_0, .int .i64 a1_1, .int .i64 a1_2, .slice A1_3 l1_3.length c1_3, .int .i64 a1_4] 61 (0, 0)) (by (refine kb_ ?_); refine Qar ?_ NB102_131.out _; (refine kb_ ?_); refine Qar ?_ NB102_131.out _; (refine kb_ ?_); refine Qar ?_ NB102_131.out _; (refine kb_ ?_); refine Qar ?_ NB102_131.out _; (refine kb_ ?_); refine Qar ?_ NB102_131.out _; (refine kb_ ?_); exact BK102.out) hb); have n8_ := Aside0.mk (QaV (g := gb121) (o := .cells #[.slice Ao163 t118.length co163] 25 (0, 0)) (by (refine kb_ ?_); refine Qar ?_ NB121_131.out _; (refine kb_ ?_); refine Qar ?_ NB121_131.out _; (refine kb_ ?_); refine Qar ?_ NB121_131.out _; (refine kb_ ?_); refine Qar ?_ NB121_131.out _; (refine kb_ ?_); refine Qar ?_ NB121_131.out _; (refine kb_ ?_); exact BK121.out) hb); have n9_ := Aside0.mk (QaV (g := gb131) (o := .cells #[.slice Ao170 t122.length co170, .int .i64 t125, .int .i64 t126, .slice Ao175 t127.length co175, .int .i64 t130] 46 (0, 0)) (by (refine kb_ ?_); refine Qa1 (cs := #[.slice Ao170 t122.length co170, .int .i64 t125, .int .i64 t126, .slice Ao175 t127.length co175, .int .i64 0]) ?_ 4 _ rfl; (refine kb_ ?_); refine Qa1 (cs := #[.slice Ao170 t122.length co170, .int .i64 t125, .int .i64 t126, .slice none 0 0, .int .i64 0]) ?_ 3 _ rfl; (refine kb_ ?_); refine Qa1 (cs := #[.slice Ao170 t122.length co170, .int .i64 t125, .int .i64 0, .slice none 0 0, .int .i64 0]) ?_ 2 _ rfl; (refine kb_ ?_); refine Qa1 (cs := #[.slice Ao170 t122.length co170, .int .i64 0, .int .i64 0, .slice none 0 0, .int .i64 0]) ?_ 1 _ rfl; (refine kb_ ?_); refine Qa1 (cs := #[.slice none 0 0, .int .i64 0, .int .i64 0, .slice none 0 0, .int .i64 0]) ?_ 0 _ rfl; (refine kb_ ?_); exact BK131.out) hb); have n10_ := Aside0.mk (Qac (bw_) hb); clear HO107; clear HO110; clear HO115; clear HO120; clear HO124; clear HO129; clear BK101; clear BK102; clear BK121; clear BK131; clear HB; have HO107 := n0_; have HO110 := n1_; have HO115 := n2_; have HO120 := n3_; have HO124 := n4_; have HO129 := n5_; have BK101 := n6_; have BK102 := n7_; have BK121 := n8_; have BK131 := n9_; have HB := n10_; clear n0_ n1_ n2_ n3_ n4_ n5_ n6_ n7_ n8_ n9_ n10_; (try clear hb); (try clear hb2); (try clear hk); (try clear hi)))
         have n0_ := Aside0.mk (Kd.S_drew HO107.out)
         have n1_ := Aside0.mk (Kd.S_drew HO110.out)
         have n2_ := Aside0.mk (Kd.R_drew HO115.out)
         have n3_ := Aside0.mk (Kd.S_drew HO120.out)
         have n4_ := Aside0.mk (Kd.S_drew HO124.out)
         have n5_ := Aside0.mk (Kd.R_drew HO129.out)
         have n6_ := Aside0.mk (Qa2 BK101.out)
         have n7_ := Aside0.mk (Qa2 BK102.out)
         have n8_ := Aside0.mk (Qa2 BK121.out)
         have n9_ := Aside0.mk (Qa2 BK131.out)
         have n10_ := Aside0.mk (Qa7 HB.out)
         clear HO107
         clear HO110
         clear HO115
         clear HO120
         clear HO124
         clear HO129
         clear BK101
         clear BK102
         clear BK121
         clear BK131
         clear HB
         have HO107 := n0_
         have HO110 := n1_
         have HO115 := n2_
         have HO120 := n3_
         have HO124 := n4_
         have HO129 := n5_
         have BK101 := n6_
         have BK102 := n7_
         have BK121 := n8_
         have BK131 := n9_
         have HB := n10_
         clear n0_ n1_ n2_ n3_ n4_ n5_ n6_ n7_ n8_ n9_ n10_
         refine QbP (n := 5) (S := fun w' => w'.cell? ⟨gb121, 0, none⟩ = some (.slice Ao163 t118.length co163) ∧ w'.cell? ⟨gb101, 0, none⟩ = some (.slice A0_0 l0_0.length c0_0)) (ds := []) #[false, false, false, false, false] (by kernel_rfl) rfl rfl ⟨(Qab BK121.out 0).trans rfl, (Qab BK101.out 0).trans rfl⟩ (fun hHeld => ?_)
         generalize w177.drew = w178 at HO107 HO110 HO115 HO120 HO124 HO129 BK101 BK102 BK121 BK131 HB hHeld ⊢
         refine tk_ 0 (some 35) #[true, false, false, false, false] rfl rfl hHeld ?_
         refine tk_ 1 (some 36) #[true, true, false, false, false] rfl rfl hHeld ?_
         refine Qcx (i := 2) (N := some 37) #[true, true, true, false, false] rfl rfl (by kernel_rfl) (by decide) (fun K hK => ?_)
         refine QbL Try.func28 (by kernel_rfl) rfl #[.agg #[.slice A0_0 l0_0.length c0_0]] (by rfl) rfl rfl (by (try simp only [List.map_toArray, List.map_cons, List.map_nil]); first | done | rfl | (simp only [List.length_drop, List.length_take]; rfl)) ?_
         with_reducible refine (QaT.calls k _ _ l0_0 t133 _ ?side1 ?side2 A58.out).mono ?_
         (case side1 => exact cb_)
         (case side2 => exact HC0_0.out)
         rintro e w179 ⟨v134, rfl, ho0, hb⟩
         refine ⟨_, rfl, ?_⟩
         have n0_ := Aside0.mk (Kd.S_elder' (by (refine Qbo ?_); exact HO107.out) (Kd.S_base ho0) hb)
         have n1_ := Aside0.mk (Kd.S_below (by (refine Qbo ?_); exact HO110.out) hb)
         have n2_ := Aside0.mk (Kd.R_below (by (refine QbI ?_); exact HO115.out) hb)
         have n3_ := Aside0.mk (Kd.S_elder' (by (refine Qbo ?_); exact HO120.out) (Kd.S_base ho0) hb)
         have n4_ := Aside0.mk (Kd.S_below (by (refine Qbo ?_); exact HO124.out) hb)
         have n5_ := Aside0.mk (Kd.R_below (by (refine QbI ?_); exact HO129.out) hb)
         have n6_ := Aside0.mk (Kd.S_lower (Kd.S_new' (Kd.S_new' ho0 (Kd.S_lt (by (refine Qbo ?_); exact HO107.out))) (Kd.S_lt (by (refine Qbo ?_); exact HO120.out))) (QaE (bw_)))
         have n7_ := Aside0.mk (bb_ BK101 hb)
         have n8_ := Aside0.mk (bb_ BK102 hb)
         have n9_ := Aside0.mk (bb_ BK121 hb)
         have n10_ := Aside0.mk (bb_ BK131 hb)
         have n11_ := Aside0.mk (Qac (bw_) hb)
         clear HO107
         clear HO110
         clear HO115
         clear HO120
         clear HO124
         clear HO129
         clear BK101
         clear BK102
         clear BK121
         clear BK131
         clear HB
         have HO107 := n0_
         have HO110 := n1_
         have HO115 := n2_
         have HO120 := n3_
         have HO124 := n4_
         have HO129 := n5_
         have HO135 := n6_
         have BK101 := n7_
         have BK102 := n8_
         have BK121 := n9_
         have BK131 := n10_
         have HB := n11_
         clear n0_ n1_ n2_ n3_ n4_ n5_ n6_ n7_ n8_ n9_ n10_ n11_
         (try clear hb)
         (try clear hb2)
         (try clear hk)
         (try clear hi)
         (try clear ho0)
         obtain ⟨Ao180, co180, eo180⟩ := Kd.S_slice HO135.out
         (first | subst eo180 | (injection eo180 with f1_ f2_ f3_; have f4_ := f1_.symm; have f5_ := f3_.symm; clear f1_ f2_ f3_; subst f4_; subst f5_))
         refine hK.out _ _ ⟨(Qab BK121.out 0).trans rfl, (Qab BK101.out 0).trans rfl⟩ (fun hHeld => ?_)
         clear hK K
         refine QbK (a' := ?_) ?_ ?_
         rotate_left
         · show Act.put _ (some 37) _ = _
           simp only [Act.put, List.setIfInBounds_toArray, List.set_cons_zero, List.set_cons_succ, QbA, QbB]
           rfl
         refine Qcx (i := 3) (N := some 38) #[true, true, true, true, false] rfl rfl (by kernel_rfl) (by decide) (fun K hK => ?_)
         refine QbL Try.func31 (by kernel_rfl) rfl #[.agg #[.slice Ao163 t118.length co163], .agg #[.slice Ao180 t133.length co180]] (by rfl) rfl rfl (by (try simp only [List.map_toArray, List.map_cons, List.map_nil]); first | done | rfl | (simp only [List.length_drop, List.length_take]; rfl)) ?_
         with_reducible refine (Qbj.calls k _ _ t118 _ _ t133 false _ ?side1 ?side2 ?side3 ?side4 A59.out).mono ?_
         (case side1 => repeat (first | exact (Kd.S_reads' HO120.out).2.2 | (with_reducible refine Kd.C_alloc ?_ _) | (with_reducible refine Kd.C_drewN ?_ _) | (with_reducible refine Kd.C_drew ?_)))
         (case side2 => exact (Kd.S_reads' HO120.out).2.1)
         (case side3 => repeat (first | exact (Kd.S_reads' HO135.out).2.2 | (with_reducible refine Kd.C_alloc ?_ _) | (with_reducible refine Kd.C_drewN ?_ _) | (with_reducible refine Kd.C_drew ?_)))
         (case side4 => exact (Kd.S_reads' HO135.out).2.1)
         rintro e w181 ⟨rfl, hb⟩
         refine ⟨_, rfl, ?_⟩
         have n0_ := Aside0.mk (Kd.S_below (by (refine Qbo ?_); exact HO107.out) hb)
         have n1_ := Aside0.mk (Kd.S_below (by (refine Qbo ?_); exact HO110.out) hb)
         have n2_ := Aside0.mk (Kd.R_below (by (refine QbI ?_); exact HO115.out) hb)
         have n3_ := Aside0.mk (Kd.S_below (by (refine Qbo ?_); exact HO120.out) hb)
         have n4_ := Aside0.mk (Kd.S_below (by (refine Qbo ?_); exact HO124.out) hb)
         have n5_ := Aside0.mk (Kd.R_below (by (refine QbI ?_); exact HO129.out) hb)
         have n6_ := Aside0.mk (Kd.S_below (by (refine Qbo ?_); exact HO135.out) hb)
         have n7_ := Aside0.mk (bb_ BK101 hb)
         have n8_ := Aside0.mk (bb_ BK102 hb)
         have n9_ := Aside0.mk (bb_ BK121 hb)
         have n10_ := Aside0.mk (bb_ BK131 hb)
         have n11_ := Aside0.mk (Qac (bw_) hb)
         clear HO107
         clear HO110
         clear HO115
         clear HO120
         clear HO124
         clear HO129
         clear HO135
         clear BK101
         clear BK102
         clear BK121
         clear BK131
         clear HB
         have HO107 := n0_
         have HO110 := n1_
         have HO115 := n2_
         have HO120 := n3_
         have HO124 := n4_
         have HO129 := n5_
         have HO135 := n6_
         have BK101 := n7_
         have BK102 := n8_
         have BK121 := n9_
         have BK131 := n10_
         have HB := n11_
         clear n0_ n1_ n2_ n3_ n4_ n5_ n6_ n7_ n8_ n9_ n10_ n11_
         (try clear hb)
         (try clear hb2)
         (try clear hk)
         (try clear hi)
         refine hK.out _ _ ⟨(Qab BK121.out 0).trans rfl, (Qab BK101.out 0).trans rfl⟩ (fun hHeld => ?_)
         clear hK K
         refine QbK (a' := ?_) ?_ ?_
         rotate_left
         · show Act.put _ (some 38) _ = _
           simp only [Act.put, List.setIfInBounds_toArray, List.set_cons_zero, List.set_cons_succ, QbA, QbB]
           rfl
         refine pu_ 4 (some 39) #[true, true, true, true, true] rfl rfl ?_
         refine Qcc (by kernel_rfl) ?_
         try go_wp2
         go_ret
         exact ⟨by first | rfl | (simp [Qaf, Qag] <;> rfl) | (simp [*, Qaf, Qag] <;> rfl), bw_⟩
end Go.Proofs.Ytabcijheemjplaa.G
