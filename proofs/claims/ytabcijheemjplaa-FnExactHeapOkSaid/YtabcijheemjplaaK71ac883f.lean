import Derived.Test.YtabcijheemjplaaK504cd682
import Derived.Test.YtabcijheemjplaaK81ea63c1
namespace Go.Proofs.Ytabcijheemjplaa.G
open Go.RowKit Go.Proofs.YtabcijheemjplaaW.PrintWords Go.Proofs.YtabcijheemjplaaW.PrintLast Go.Proofs.YtabcijheemjplaaW.PrintMore
attribute [local go_sem] Qa3 Qa4 Qbc Qbd QaP QaQ Qa5 Qa6
set_option linter.unusedVariables false
set_option linter.unusedSimpArgs false
def QaK.f (k : Nat) (l0_0 : List (Qba)) (a0_1 : Int) (a0_2 : Int) (l0_3 : List (Qa8)) (a0_4 : Int) : Option ((List (Qas)) × Int × Int × (List (Qao)) × Int) := (QaZ.f k l0_0).bind fun t104 => ((QaS.f k l0_3).bind fun t107 => (some (t104, a0_1, a0_2, t107, a0_4)))
theorem QaK.mono : ∀ a0 a1 a2 a3 a4 k, LeO (QaK.f k a0 a1 a2 a3 a4) (QaK.f (k + 1) a0 a1 a2 a3 a4) := by
 intro a0 a1 a2 a3 a4 k
 unfold QaK.f
 repeat' first
  | (with_reducible exact QaZ.mono _ _)
  | (with_reducible exact QaS.mono _ _)
  | (with_reducible exact LeO.refl _)
  | (with_reducible exact LeO.none _)
  | (with_reducible refine LeO.ite ?_ ?_)
  | (with_reducible refine LeO.bind ?_ (fun _ => ?_))
  | exact QaZ.mono _ _
  | exact QaS.mono _ _
  | exact LeO.none _
  | refine LeO.ite ?_ ?_
  | refine LeO.bind ?_ (fun _ => ?_)
set_option maxHeartbeats 8000000 in
set_option maxRecDepth 100000 in
theorem QaK.calls (k : Nat) (A0_0 : Option Addr) (c0_0 : Nat) (l0_0 : List (Qba)) (a0_1 : Int) (a0_2 : Int) (A0_3 : Option Addr) (c0_3 : Nat) (l0_3 : List (Qa8)) (a0_4 : Int) (r1 : List (Qas)) (r2 : Int) (r3 : Int) (r4 : List (Qao)) (r5 : Int) (w : World) (hr0_0 : Kd.C QbW w A0_0 l0_0.length l0_0) (hc0_0 : l0_0.length ≤ c0_0) (hr0_3 : Kd.C Qbv w A0_3 l0_3.length l0_3) (hc0_3 : l0_3.length ≤ c0_3) (h : QaK.f k l0_0 a0_1 a0_2 l0_3 a0_4 = some (r1, r2, r3, r4, r5)) :
 Calls Try.prog 43 #[.agg #[.slice A0_0 l0_0.length c0_0, .int .i64 a0_1, .int .i64 a0_2, .slice A0_3 l0_3.length c0_3, .int .i64 a0_4]] w fun e w' => ∃ v0_ v3_ : Value, e = .returned (.agg #[v0_, .int .i64 r2, .int .i64 r3, v3_, .int .i64 r5]) ∧ Kd.S Qa_ 67 w' w.heap.size (fun k_ => some k_ ≠ (v3_ : Value).ownBlock) v0_ r1 ∧ Kd.R QaN 104 w' w.heap.size (fun _ => True) v3_ r4 ∧ Below w.heap.size w w' := by
 have hu61 := Try.underlying61
 have hu46 := Try.underlying46
 have HR0_0 := Aside0.mk hr0_0
 have HC0_0 := Aside0.mk hc0_0
 clear hr0_0 hc0_0
 have HR0_3 := Aside0.mk hr0_3
 have HC0_3 := Aside0.mk hc0_3
 clear hr0_3 hc0_3
 have HB := Aside0.mk (Below.refl w.heap.size w)
 have H : ((QaZ.f k l0_0).bind fun t104 => ((QaS.f k l0_3).bind fun t107 => (some (t104, a0_1, a0_2, t107, a0_4)))) = some (r1, r2, r3, r4, r5) := h
 clear h
 replace H := Option.bind_eq_some_iff.mp H
 obtain ⟨t104, A20, H⟩ := H
 replace H : ((QaS.f k l0_3).bind fun t107 => (some (t104, a0_1, a0_2, t107, a0_4))) = some (r1, r2, r3, r4, r5) := H
 have A2 := Aside0.mk A20
 clear A20
 replace H := Option.bind_eq_some_iff.mp H
 obtain ⟨t107, A30, H⟩ := H
 replace H : (some (t104, a0_1, a0_2, t107, a0_4)) = some (r1, r2, r3, r4, r5) := H
 have A3 := Aside0.mk A30
 clear A30
 simp only [Option.some.injEq, Prod.mk.injEq] at H
 obtain ⟨rfl, rfl, rfl, rfl, rfl⟩ := H
 go_enter Try.func43, Try.ntmps43
 go_wp2_with (first | ((with_reducible refine Qaq (N := 1) rfl ?_); refine Qam ?hg (N := 1) ?hd (cs := #[.slice A0_0 l0_0.length c0_0, .int .i64 a0_1, .int .i64 a0_2, .slice A0_3 l0_3.length c0_3, .int .i64 a0_4]) (t := 61) ?hr ?_; (case hd => rfl); (case hg => rfl); (case hr => first | (go_simp; done) | (go_simp; rfl)); intro gb101 hg w4 hbox hb; have n0_ := Aside0.mk (Qac (bw_) hb); have n1_ := Aside0.mk (hbox); have n2_ := Aside0.mk ((gs_ hg bw_ : w.heap.size ≤ gb101)); have n3_ := Aside0.mk ((gs_ hg bw_ : w.heap.size ≤ gb101)); clear HB; have HB := n0_; have BK101 := n1_; have GW101 := n2_; have GE101 := n3_; clear n0_ n1_ n2_ n3_; clear hb hbox hg) | ((with_reducible refine Qaq (N := 2) rfl ?_); refine Qam ?hg (N := 2) ?hd (cs := #[.slice none 0 0, .int .i64 0, .int .i64 0, .slice none 0 0, .int .i64 0]) (t := 46) ?hr ?_; (case hd => rfl); (case hg => rfl); (case hr => first | (go_simp; done) | (go_simp; rfl)); intro gb102 hg w5 hbox hb; have n0_ := Aside0.mk (bb_ BK101 hb); have n1_ := Aside0.mk (Qac (bw_) hb); have n2_ := Aside0.mk (hbox); have n3_ := Aside0.mk ((gs_ hg bw_ : w.heap.size ≤ gb102)); have n4_ := Aside0.mk ((gs_ hg bw_ : w.heap.size ≤ gb102)); have n5_ := Aside0.mk ((nl_ hg BK101 : gb101 ≠ gb102)); have n6_ := Aside0.mk ((ng_ hg BK101 : gb102 ≠ gb101)); clear BK101; clear HB; have BK101 := n0_; have HB := n1_; have BK102 := n2_; have GW102 := n3_; have GE102 := n4_; have NB101_102 := n5_; have NB102_101 := n6_; clear n0_ n1_ n2_ n3_ n4_ n5_ n6_; clear hb hbox hg) | ((with_reducible refine Qaq (N := 3) rfl ?_); refine Qam ?hg (N := 3) ?hd (cs := #[.slice none 0 0, .int .i64 0, .int .i64 0, .slice none 0 0, .int .i64 0]) (t := 46) ?hr ?_; (case hd => rfl); (case hg => rfl); (case hr => first | (go_simp; done) | (go_simp; rfl)); intro gb103 hg w6 hbox hb; have n0_ := Aside0.mk (bb_ BK101 hb); have n1_ := Aside0.mk (bb_ BK102 hb); have n2_ := Aside0.mk (Qac (bw_) hb); have n3_ := Aside0.mk (hbox); have n4_ := Aside0.mk ((gs_ hg bw_ : w.heap.size ≤ gb103)); have n5_ := Aside0.mk ((gs_ hg bw_ : w.heap.size ≤ gb103)); have n6_ := Aside0.mk ((nl_ hg BK101 : gb101 ≠ gb103)); have n7_ := Aside0.mk ((ng_ hg BK101 : gb103 ≠ gb101)); have n8_ := Aside0.mk ((nl_ hg BK102 : gb102 ≠ gb103)); have n9_ := Aside0.mk ((ng_ hg BK102 : gb103 ≠ gb102)); clear BK101; clear BK102; clear HB; have BK101 := n0_; have BK102 := n1_; have HB := n2_; have BK103 := n3_; have GW103 := n4_; have GE103 := n5_; have NB101_103 := n6_; have NB103_101 := n7_; have NB102_103 := n8_; have NB103_102 := n9_; clear n0_ n1_ n2_ n3_ n4_ n5_ n6_ n7_ n8_ n9_; clear hb hbox hg; have hnb7 := NB101_102.out; have hnc7 := NB102_101.out; have hnb8 := NB101_103.out; have hnc8 := NB103_101.out; obtain ⟨hcz9_0, hcz9_1, hcz9_2, hcz9_3, hcz9_4, hfz9_0, hfz9_1, hfz9_2, hfz9_3, hfz9_4⟩ := Qbe BK101.out) | ((with_reducible refine Qal (f := 92) rfl ?_); refine QaU (some 6) rfl rfl Try.func92 (by kernel_rfl) rfl #[.slice A0_0 l0_0.length c0_0] rfl (by (try simp only [List.map_toArray, List.map_cons, List.map_nil]); first | done | rfl | (simp only [List.length_drop, List.length_take]; rfl)) ?_; (with_reducible refine (QaZ.calls k _ _ l0_0 t104 _ ?side1 ?side2 A2.out).mono ?_); (case side1 => exact cb_); (case side2 => exact HC0_0.out); rintro e w10 ⟨v105, rfl, ho0, hb⟩; refine ⟨_, rfl, ?_⟩; have n0_ := Aside0.mk (Kd.S_lower ho0 (QaE (bw_))); have n1_ := Aside0.mk (bb_ BK101 hb); have n2_ := Aside0.mk (bb_ BK102 hb); have n3_ := Aside0.mk (bb_ BK103 hb); have n4_ := Aside0.mk (Qac (bw_) hb); clear BK101; clear BK102; clear BK103; clear HB; have HO106 := n0_; have BK101 := n1_; have BK102 := n2_; have BK103 := n3_; have HB := n4_; clear n0_ n1_ n2_ n3_ n4_; (try clear hb); (try clear hb2); (try clear hk); (try clear hi); (try clear ho0); obtain ⟨Ao11, co11, eo11⟩ := Kd.S_slice HO106.out; subst eo11; have hnb12 := NB103_102.out; have hnc12 := NB102_103.out; obtain ⟨hcz13_0, hcz13_1, hcz13_2, hcz13_3, hcz13_4, hfz13_0, hfz13_1, hfz13_2, hfz13_3, hfz13_4⟩ := Qbe BK103.out; obtain ⟨hcz14_0, hcz14_1, hcz14_2, hcz14_3, hcz14_4, hfz14_0, hfz14_1, hfz14_2, hfz14_3, hfz14_4⟩ := Qbe BK101.out) | ((with_reducible refine Qal (f := 93) rfl ?_); refine QaU (some 16) rfl rfl Try.func93 (by kernel_rfl) rfl #[.slice A0_3 l0_3.length c0_3] rfl (by (try simp only [List.map_toArray, List.map_cons, List.map_nil]); first | done | rfl | (simp only [List.length_drop, List.length_take]; rfl)) ?_; (with_reducible refine (QaS.calls k _ _ l0_3 t107 _ ?side1 ?side2 A3.out).mono ?_); (case side1 => exact Kd.C_below HR0_3.out (bw_)); (case side2 => exact HC0_3.out); rintro e w15 ⟨v108, rfl, ho0, hb⟩; refine ⟨_, rfl, ?_⟩; have n0_ := Aside0.mk (Kd.S_elder' (by (refine Qbo ?_); exact (Kd.S_mono (Kd.S_far (p := ⟨gb103, 2, none⟩) (Kd.S_far (p := ⟨gb103, 1, none⟩) (Kd.S_far (p := ⟨gb103, 0, none⟩) (Kd.S_types HO106.out BK103.out (by decide)) (fun _ hk => hk.2) (.slice Ao11 t104.length co11)) (fun _ hk => hk.2) (.int .i64 a0_1)) (fun _ hk => hk.2) (.int .i64 a0_2)) (fun _ h_ => h_.1))) (Kd.R_base ho0) hb); have n1_ := Aside0.mk (Kd.R_lower ho0 (QaE (bw_))); have n2_ := Aside0.mk (QaV (g := gb101) (o := .cells #[.slice A0_0 l0_0.length c0_0, .int .i64 a0_1, .int .i64 a0_2, .slice A0_3 l0_3.length c0_3, .int .i64 a0_4] 61 (0, 0)) (by (refine kb_ ?_); refine Qar ?_ NB101_103.out _; (refine kb_ ?_); refine Qar ?_ NB101_103.out _; (refine kb_ ?_); refine Qar ?_ NB101_103.out _; (refine kb_ ?_); exact BK101.out) hb); have n3_ := Aside0.mk (QaV (g := gb102) (o := .cells #[.slice none 0 0, .int .i64 0, .int .i64 0, .slice none 0 0, .int .i64 0] 46 (0, 0)) (by (refine kb_ ?_); refine Qar ?_ NB102_103.out _; (refine kb_ ?_); refine Qar ?_ NB102_103.out _; (refine kb_ ?_); refine Qar ?_ NB102_103.out _; (refine kb_ ?_); exact BK102.out) hb); have n4_ := Aside0.mk (QaV (g := gb103) (o := .cells #[.slice Ao11 t104.length co11, .int .i64 a0_1, .int .i64 a0_2, .slice none 0 0, .int .i64 0] 46 (0, 0)) (by (refine kb_ ?_); refine Qa1 (cs := #[.slice Ao11 t104.length co11, .int .i64 a0_1, .int .i64 0, .slice none 0 0, .int .i64 0]) ?_ 2 _ rfl; (refine kb_ ?_); refine Qa1 (cs := #[.slice Ao11 t104.length co11, .int .i64 0, .int .i64 0, .slice none 0 0, .int .i64 0]) ?_ 1 _ rfl; (refine kb_ ?_); refine Qa1 (cs := #[.slice none 0 0, .int .i64 0, .int .i64 0, .slice none 0 0, .int .i64 0]) ?_ 0 _ rfl; (refine kb_ ?_); exact BK103.out) hb); have n5_ := Aside0.mk (Qac (bw_) hb); clear HO106; clear BK101; clear BK102; clear BK103; clear HB; have HO106 := n0_; have HO109 := n1_; have BK101 := n2_; have BK102 := n3_; have BK103 := n4_; have HB := n5_; clear n0_ n1_ n2_ n3_ n4_ n5_; (try clear hb); (try clear hb2); (try clear hk); (try clear hi); (try clear ho0); obtain ⟨Ao16, co16, eo16⟩ := Kd.R_slice HO109.out; subst eo16; obtain ⟨hcz17_0, hcz17_1, hcz17_2, hcz17_3, hcz17_4, hfz17_0, hfz17_1, hfz17_2, hfz17_3, hfz17_4⟩ := Qbe BK103.out; obtain ⟨hcz18_0, hcz18_1, hcz18_2, hcz18_3, hcz18_4, hfz18_0, hfz18_1, hfz18_2, hfz18_3, hfz18_4⟩ := Qbe BK101.out; obtain ⟨hcz19_0, hcz19_1, hcz19_2, hcz19_3, hcz19_4, hfz19_0, hfz19_1, hfz19_2, hfz19_3, hfz19_4⟩ := Qbe BK102.out))
 refine bodyPost_ret (results_cell_row rfl _ _ gb102 46 #[.slice Ao11 t104.length co11, .int .i64 a0_1, .int .i64 a0_2, .slice Ao16 t107.length co16, .int .i64 a0_4] (0, 0) _ rfl (by (refine kb_ ?_); refine Qa1 (cs := #[.slice Ao11 t104.length co11, .int .i64 a0_1, .int .i64 a0_2, .slice Ao16 t107.length co16, .int .i64 0]) ?_ 4 _ rfl; (refine kb_ ?_); refine Qa1 (cs := #[.slice Ao11 t104.length co11, .int .i64 a0_1, .int .i64 a0_2, .slice none 0 0, .int .i64 0]) ?_ 3 _ rfl; (refine kb_ ?_); refine Qa1 (cs := #[.slice Ao11 t104.length co11, .int .i64 a0_1, .int .i64 0, .slice none 0 0, .int .i64 0]) ?_ 2 _ rfl; (refine kb_ ?_); refine Qa1 (cs := #[.slice Ao11 t104.length co11, .int .i64 0, .int .i64 0, .slice none 0 0, .int .i64 0]) ?_ 1 _ rfl; (refine kb_ ?_); refine Qa1 (cs := #[.slice none 0 0, .int .i64 0, .int .i64 0, .slice none 0 0, .int .i64 0]) ?_ 0 _ rfl; (refine kb_ ?_); refine Qar ?_ NB102_103.out _; (refine kb_ ?_); refine Qar ?_ NB102_103.out _; (refine kb_ ?_); exact BK102.out) Try.underlying46 rfl (by kernel_rfl)) rfl ?_
 exact ⟨_, _, by first | rfl | (simp [Qaf, Qag] <;> rfl) | (simp [*, Qaf, Qag] <;> rfl), by (refine Qbo ?_); exact Kd.S_mono (Kd.S_far (p := ⟨gb102, 4, none⟩) (Kd.S_far (p := ⟨gb102, 3, none⟩) (Kd.S_far (p := ⟨gb102, 2, none⟩) (Kd.S_far (p := ⟨gb102, 1, none⟩) (Kd.S_far (p := ⟨gb102, 0, none⟩) (Kd.S_far (p := ⟨gb103, 4, none⟩) (Kd.S_far (p := ⟨gb103, 3, none⟩) (Kd.S_types (Kd.S_types HO106.out BK103.out (by decide)) BK102.out (by decide)) (fun _ hk => hk.1.2) (.slice Ao16 t107.length co16)) (fun _ hk => hk.1.2) (.int .i64 a0_4)) (fun _ hk => hk.2) (.slice Ao11 t104.length co11)) (fun _ hk => hk.2) (.int .i64 a0_1)) (fun _ hk => hk.2) (.int .i64 a0_2)) (fun _ hk => hk.2) (.slice Ao16 t107.length co16)) (fun _ hk => hk.2) (.int .i64 a0_4)) (fun _ hk => hk.1.1.2), by (refine QbI ?_); exact Kd.R_mono (Kd.R_far (p := ⟨gb102, 4, none⟩) (Kd.R_far (p := ⟨gb102, 3, none⟩) (Kd.R_far (p := ⟨gb102, 2, none⟩) (Kd.R_far (p := ⟨gb102, 1, none⟩) (Kd.R_far (p := ⟨gb102, 0, none⟩) (Kd.R_far (p := ⟨gb103, 4, none⟩) (Kd.R_far (p := ⟨gb103, 3, none⟩) (Kd.R_types (Kd.R_types HO109.out BK103.out (by decide)) BK102.out (by decide)) (fun _ hk => hk.1.2) (.slice Ao16 t107.length co16)) (fun _ hk => hk.1.2) (.int .i64 a0_4)) (fun _ hk => hk.2) (.slice Ao11 t104.length co11)) (fun _ hk => hk.2) (.int .i64 a0_1)) (fun _ hk => hk.2) (.int .i64 a0_2)) (fun _ hk => hk.2) (.slice Ao16 t107.length co16)) (fun _ hk => hk.2) (.int .i64 a0_4)) (fun _ hk => trivial), bw_⟩
end Go.Proofs.Ytabcijheemjplaa.G
namespace Go.Proofs.Ytabcijheemjplaa.G
open Go.RowKit Go.Proofs.YtabcijheemjplaaW.PrintWords Go.Proofs.YtabcijheemjplaaW.PrintLast Go.Proofs.YtabcijheemjplaaW.PrintMore
attribute [local go_sem] Qa3 Qa4 Qbc Qbd QaP QaQ Qa5 Qa6
set_option linter.unusedVariables false
set_option linter.unusedSimpArgs false
def laws_toOp.f (a0_0 : Int) (a0_1 : Int) : Option (Int × Int) := some (a0_0, a0_1)
set_option maxHeartbeats 8000000 in
set_option maxRecDepth 100000 in
theorem laws_toOp.calls (a0_0 : Int) (a0_1 : Int) (r1 : Int) (r2 : Int) (w : World) (h : laws_toOp.f a0_0 a0_1 = some (r1, r2)) :
 Calls Try.prog 147 #[.agg #[.int .i64 a0_0, .int .i64 a0_1]] w fun e w' => e = .returned (.agg #[.int .i64 r1, .int .i64 r2]) ∧ Below w.heap.size w w' := by
 have hu173 := Try.underlying173
 have hu83 := Try.underlying83
 have HB := Aside0.mk (Below.refl w.heap.size w)
 have H : (some (a0_0, a0_1)) = some (r1, r2) := h
 clear h
 simp only [Option.some.injEq, Prod.mk.injEq] at H
 obtain ⟨rfl, rfl⟩ := H
 go_enter Try.func147, Try.ntmps147
 go_wp2_with (first | ((with_reducible refine Qaq (N := 1) rfl ?_); refine Qam ?hg (N := 1) ?hd (cs := #[.int .i64 a0_0, .int .i64 a0_1]) (t := 173) ?hr ?_; (case hd => rfl); (case hg => rfl); (case hr => first | (go_simp; done) | (go_simp; rfl)); intro gb101 hg w2 hbox hb; have n0_ := Aside0.mk (Qac (bw_) hb); have n1_ := Aside0.mk (hbox); have n2_ := Aside0.mk ((gs_ hg bw_ : w.heap.size ≤ gb101)); have n3_ := Aside0.mk ((gs_ hg bw_ : w.heap.size ≤ gb101)); clear HB; have HB := n0_; have BK101 := n1_; have GW101 := n2_; have GE101 := n3_; clear n0_ n1_ n2_ n3_; clear hb hbox hg) | ((with_reducible refine Qaq (N := 2) rfl ?_); refine Qam ?hg (N := 2) ?hd (cs := #[.int .i64 0, .int .i64 0]) (t := 83) ?hr ?_; (case hd => rfl); (case hg => rfl); (case hr => first | (go_simp; done) | (go_simp; rfl)); intro gb102 hg w3 hbox hb; have n0_ := Aside0.mk (bb_ BK101 hb); have n1_ := Aside0.mk (Qac (bw_) hb); have n2_ := Aside0.mk (hbox); have n3_ := Aside0.mk ((gs_ hg bw_ : w.heap.size ≤ gb102)); have n4_ := Aside0.mk ((gs_ hg bw_ : w.heap.size ≤ gb102)); have n5_ := Aside0.mk ((nl_ hg BK101 : gb101 ≠ gb102)); have n6_ := Aside0.mk ((ng_ hg BK101 : gb102 ≠ gb101)); clear BK101; clear HB; have BK101 := n0_; have HB := n1_; have BK102 := n2_; have GW102 := n3_; have GE102 := n4_; have NB101_102 := n5_; have NB102_101 := n6_; clear n0_ n1_ n2_ n3_ n4_ n5_ n6_; clear hb hbox hg) | ((with_reducible refine Qaq (N := 3) rfl ?_); refine Qam ?hg (N := 3) ?hd (cs := #[.int .i64 0, .int .i64 0]) (t := 83) ?hr ?_; (case hd => rfl); (case hg => rfl); (case hr => first | (go_simp; done) | (go_simp; rfl)); intro gb103 hg w4 hbox hb; have n0_ := Aside0.mk (bb_ BK101 hb); have n1_ := Aside0.mk (bb_ BK102 hb); have n2_ := Aside0.mk (Qac (bw_) hb); have n3_ := Aside0.mk (hbox); have n4_ := Aside0.mk ((gs_ hg bw_ : w.heap.size ≤ gb103)); have n5_ := Aside0.mk ((gs_ hg bw_ : w.heap.size ≤ gb103)); have n6_ := Aside0.mk ((nl_ hg BK101 : gb101 ≠ gb103)); have n7_ := Aside0.mk ((ng_ hg BK101 : gb103 ≠ gb101)); have n8_ := Aside0.mk ((nl_ hg BK102 : gb102 ≠ gb103)); have n9_ := Aside0.mk ((ng_ hg BK102 : gb103 ≠ gb102)); clear BK101; clear BK102; clear HB; have BK101 := n0_; have BK102 := n1_; have HB := n2_; have BK103 := n3_; have GW103 := n4_; have GE103 := n5_; have NB101_103 := n6_; have NB103_101 := n7_; have NB102_103 := n8_; have NB103_102 := n9_; clear n0_ n1_ n2_ n3_ n4_ n5_ n6_ n7_ n8_ n9_; clear hb hbox hg; have hnb5 := NB101_102.out; have hnc5 := NB102_101.out; have hnb6 := NB101_103.out; have hnc6 := NB103_101.out; obtain ⟨hcz7_0, hcz7_1, hfz7_0, hfz7_1⟩ := QbN BK101.out; have hnb8 := NB103_102.out; have hnc8 := NB102_103.out; obtain ⟨hcz9_0, hcz9_1, hfz9_0, hfz9_1⟩ := QbN BK103.out; obtain ⟨hcz10_0, hcz10_1, hfz10_0, hfz10_1⟩ := QbN BK102.out))
 refine bodyPost_ret (results_cell_row rfl _ _ gb102 83 #[.int .i64 a0_0, .int .i64 a0_1] (0, 0) _ rfl (by (refine kb_ ?_); refine Qa1 (cs := #[.int .i64 a0_0, .int .i64 0]) ?_ 1 _ rfl; (refine kb_ ?_); refine Qa1 (cs := #[.int .i64 0, .int .i64 0]) ?_ 0 _ rfl; (refine kb_ ?_); refine Qar ?_ NB102_103.out _; (refine kb_ ?_); refine Qar ?_ NB102_103.out _; (refine kb_ ?_); exact BK102.out) Try.underlying83 rfl (by kernel_rfl)) rfl ?_
 exact ⟨by first | rfl | (simp [Qaf, Qag] <;> rfl) | (simp [*, Qaf, Qag] <;> rfl), bw_⟩
end Go.Proofs.Ytabcijheemjplaa.G
namespace Go.Proofs.Ytabcijheemjplaa.G
open Go.RowKit Go.Proofs.YtabcijheemjplaaW.PrintWords Go.Proofs.YtabcijheemjplaaW.PrintLast Go.Proofs.YtabcijheemjplaaW.PrintMore
attribute [local go_sem] Qa3 Qa4 Qbc Qbd QaP QaQ Qa5 Qa6
set_option linter.unusedVariables false
set_option linter.unusedSimpArgs false
def Qbb.l0 : Nat → List (Qbw) → List (QaW) → Int → Option ((List (QaW)))
 | 0, _, _, _ => none
 | k + 1, x0, x3, x4 => if x4 < (x0.length : Int) then (if 0 ≤ x4 then ((laws_toOp.f ((Qb9 x0 x4).f0) ((Qb9 x0 x4).f1)).bind fun bt105 => (if x4 < (x3.length : Int) then (Qbb.l0 k x0 (x3.set (x4 : Int).toNat (⟨bt105.1, bt105.2⟩ : QaW)) (wrap64 (x4 + 1))) else (none))) else (none)) else (some x3)
def Qbb.f (k : Nat) (l0 : List (Qbw)) : Option ((List (QaW))) := if 0 ≤ (l0.length : Int) then (if ((l0.length : Int) : Int).toNat ≤ 17592186044416 then (Qbb.l0 k l0 (List.replicate ((l0.length : Int) : Int).toNat Qca) 0) else (none)) else (none)
theorem Qbb.mono_l : ∀ k, (∀ y0 y1 y2, LeO (Qbb.l0 k y0 y1 y2) (Qbb.l0 (k + 1) y0 y1 y2))
 | 0 => fun _ _ _ r h => by simp [Qbb.l0] at h
 | k + 1 => by
   have ih0 := Qbb.mono_l k
   · intro y0 y1 y2
     unfold Qbb.l0
     repeat' first
     | (with_reducible exact ih0 _ _ _)
     | (with_reducible exact LeO.refl _)
     | (with_reducible exact LeO.none _)
     | (with_reducible refine LeO.ite ?_ ?_)
     | (with_reducible refine LeO.bind ?_ (fun _ => ?_))
     | exact ih0 _ _ _
     | exact LeO.none _
     | refine LeO.ite ?_ ?_
     | refine LeO.bind ?_ (fun _ => ?_)
theorem Qbb.mono : ∀ a0 k, LeO (Qbb.f k a0) (Qbb.f (k + 1) a0) := by
 intro a0 k
 have ih0 := Qbb.mono_l k
 unfold Qbb.f
 repeat' first
  | (with_reducible exact ih0 _ _ _)
  | (with_reducible exact LeO.refl _)
  | (with_reducible exact LeO.none _)
  | (with_reducible refine LeO.ite ?_ ?_)
  | (with_reducible refine LeO.bind ?_ (fun _ => ?_))
  | exact ih0 _ _ _
  | exact LeO.none _
  | refine LeO.ite ?_ ?_
  | refine LeO.bind ?_ (fun _ => ?_)
set_option maxHeartbeats 8000000 in
set_option maxRecDepth 100000 in
theorem Qbb.calls (k : Nat) (A0 : Option Addr) (c0 : Nat) (l0 : List (Qbw)) (r : List (QaW)) (w : World) (hr0 : Kd.C Qb_ w A0 l0.length l0) (hc0 : l0.length ≤ c0) (h : Qbb.f k l0 = some r) :
 Calls Try.prog 132 #[.slice A0 l0.length c0] w fun e w' => ∃ v0_ : Value, e = .returned (v0_) ∧ Kd.R Qbk 83 w' w.heap.size (fun _ => True) v0_ r ∧ Below w.heap.size w w' := by
 have hu173 := Try.underlying173
 have hu83 := Try.underlying83
 have HR0 := Aside0.mk hr0
 have HC0 := Aside0.mk hc0
 clear hr0 hc0
 have HB := Aside0.mk (Below.refl w.heap.size w)
 have H : (if 0 ≤ (l0.length : Int) then (if ((l0.length : Int) : Int).toNat ≤ 17592186044416 then (Qbb.l0 k l0 (List.replicate ((l0.length : Int) : Int).toNat Qca) 0) else (none)) else (none)) = some r := h
 clear h
 by_cases c2 : 0 ≤ (l0.length : Int)
 · rw [if_pos c2] at H
   have c2b0 := eq_true c2
   have c2b1 : decide (0 ≤ (l0.length : Int)) = true := decide_eq_true c2
   clear c2
   by_cases c3 : ((l0.length : Int) : Int).toNat ≤ 17592186044416
   · rw [if_pos c3] at H
     have c3b0 := eq_true c3
     have c3b1 : decide (((l0.length : Int) : Int).toNat ≤ 17592186044416) = true := decide_eq_true c3
     clear c3
     obtain ⟨y101, hy101⟩ : ∃ y_ : List (QaW), y_ = (List.replicate ((l0.length : Int) : Int).toNat Qca) := ⟨_, rfl⟩
     replace H : (Qbb.l0 k l0 y101 0) = some r := by first | (rw [hy101]; with_reducible exact H) | (have H2_ := (Option.bind_some _ _).symm.trans H; rw [hy101]; with_reducible exact H2_) | (have H2_ := (Option.bind_some _ _).symm.trans H; with_reducible exact H2_) | with_reducible exact H | (rw [hy101]; exact H) | exact H
     have Ny101 := Aside0.mk hy101
     clear hy101
     have H' := Aside0.mk H
     clear H
     go_enter Try.func132, Try.ntmps132
     go_wp2_with (first | ((with_reducible refine Qaq (N := 7) rfl ?_); refine Kd.R_make Qbk _ 83 rfl (N := 7) rfl 32 _ _ rfl (l0.length : Int) rfl rfl Try.underlying32 (.agg #[(.int .i64 0), (.int .i64 0)]) 16 info83 rfl (by decide) (by omega) Qca (ok := fun _ => True) (okp := fun _ => True) (k_impl_Op_mkM _ _ _ Qca ) (fun _ hk => hk) trivial (of_decide_eq_true (by first | (with_reducible assumption) | assumption)) (Nat.le_trans (Nat.mul_le_mul_right _ (of_decide_eq_true (by first | (with_reducible assumption) | assumption) : (l0.length : Int).toNat ≤ 17592186044416)) (by omega)) (Below.refl _ _) (Nat.le_refl _) ?_; intro v102 w4 ho5 hb hg_ hnew_; clear hg_ hnew_; (first | rw [← Ny101.out] at ho5 | (simp only [Int.reduceToNat] at ho5; rw [← Ny101.out] at ho5)); have n0_ := Aside0.mk (Kd.R_lower ho5 (QaE (bw_))); have n1_ := Aside0.mk (Qac (bw_) hb); clear HB; have HO103 := n0_; have HB := n1_; clear n0_ n1_; clear hb ho5))
     go_loopg [4] k (fun kq v4 w' => ∃ (x3_1 : List (QaW)) (x4_1 : Int), v4 = .int .i64 x4_1 ∧ Aside0 (Qbb.l0 kq l0 x3_1 x4_1 = some r) ∧ Aside0 (kq ≤ k) ∧ Aside0 (Kd.R Qbk 83 w' w.heap.size (fun _ => True) v102 x3_1) ∧ Aside0 (Below w.heap.size w w'))
     case atStart => exact ⟨(y101), (0), (by first | rfl | (simp; done) | (simp [*]; done)), H', ⟨Nat.le_refl _⟩, ⟨by (refine QbI ?_); exact HO103.out⟩, ⟨bw_⟩⟩
     case round =>
      clear H'
      try clear c1
      try clear c2
      try clear c2b0
      try clear c2b1
      try clear p2
      try clear c3
      try clear c3b0
      try clear c3b1
      obtain ⟨x3_1, x4_1, rfl, HA, HK1, HO_3, HB⟩ := hrel
      cases gk with
      | zero => exact absurd HA.out (by simp [Qbb.l0])
      | succ k1 =>
        have H := HA.out
        clear HA
        simp only [Qbb.l0] at H
        by_cases c6 : x4_1 < (l0.length : Int)
        · rw [if_pos c6] at H
          have c6b0 : decide (x4_1 < (l0.length : Int)) = true := decide_eq_true c6
          clear c6
          by_cases c7 : 0 ≤ x4_1
          · rw [if_pos c7] at H
            have c7b0 : decide (0 ≤ x4_1) = true := decide_eq_true c7
            clear c7
            replace H := Option.bind_eq_some_iff.mp H
            obtain ⟨⟨t105, t106⟩, A80, H⟩ := H
            replace H : (if x4_1 < (x3_1.length : Int) then (Qbb.l0 k1 l0 (x3_1.set (x4_1 : Int).toNat (⟨t105, t106⟩ : QaW)) (wrap64 (x4_1 + 1))) else (none)) = some r := H
            have A8 := Aside0.mk A80
            clear A80
            by_cases c9 : x4_1 < (x3_1.length : Int)
            · rw [if_pos c9] at H
              have c9b0 : decide (x4_1 < (x3_1.length : Int)) = true := decide_eq_true c9
              clear c9
              obtain ⟨y107, hy107⟩ : ∃ y_ : List (QaW), y_ = (x3_1.set (x4_1 : Int).toNat (⟨t105, t106⟩ : QaW)) := ⟨_, rfl⟩
              replace H : (Qbb.l0 k1 l0 y107 (wrap64 (x4_1 + 1))) = some r := by first | (rw [hy107]; with_reducible exact H) | (have H2_ := (Option.bind_some _ _).symm.trans H; rw [hy107]; with_reducible exact H2_) | (have H2_ := (Option.bind_some _ _).symm.trans H; with_reducible exact H2_) | with_reducible exact H | (rw [hy107]; exact H) | exact H
              have Ny107 := Aside0.mk hy107
              clear hy107
              have H' := Aside0.mk H
              clear H
              have p104 : 0 ≤ (x4_1 : Int) := of_decide_eq_true (by first | (with_reducible assumption) | assumption)
              have q104 : x4_1 < (l0.length : Int) := of_decide_eq_true (by first | (with_reducible assumption) | assumption)
              obtain ⟨ad104, e104, hx104_0, hx104_1⟩ := at_laws_Op HR0.out x4_1 p104 q104
              cases e104
              replace hx104_0 := pc_ HB hx104_0
              replace hx104_1 := pc_ HB hx104_1
              replace p104 := eq_true p104
              replace q104 := eq_true q104
              go_wp2_with (first | ((with_reducible refine Qal (f := 147) rfl ?_); refine QaU (some 20) rfl rfl Try.func147 (by kernel_rfl) rfl #[.agg #[.int .i64 ((Qb9 l0 x4_1).f0), .int .i64 ((Qb9 l0 x4_1).f1)]] rfl (by (try simp only [List.map_toArray, List.map_cons, List.map_nil]); first | done | rfl | (simp only [List.length_drop, List.length_take]; rfl)) ?_; (with_reducible refine (laws_toOp.calls ((Qb9 l0 x4_1).f0) ((Qb9 l0 x4_1).f1) t105 t106 _ A8.out).mono ?_); rintro e w11 ⟨rfl, hb⟩; refine ⟨_, rfl, ?_⟩; have n0_ := Aside0.mk (Kd.R_below (by (refine QbI ?_); exact HO_3.out) hb); have n1_ := Aside0.mk (Qac (bw_) hb); clear HO_3; clear HB; have HO_3 := n0_; have HB := n1_; clear n0_ n1_; (try clear hb); (try clear hb2); (try clear hk); (try clear hi); have p10 : 0 ≤ (x4_1 : Int) := of_decide_eq_true (by first | (with_reducible assumption) | assumption); have q10 : (x4_1 : Int) < ((x3_1.length : Int) : Int) := of_decide_eq_true (by first | (with_reducible assumption) | assumption); obtain ⟨go10, co10, eo10, gb10, gl10, cl10, HG10⟩ := Kd.R_form HO_3.out (by omega); (first | cases eo10 | (injection eo10 with ea_ en_ ec_; (first | subst ea_ | (injection ea_ with ea_; subst ea_)); subst ec_; clear en_)); have GB10 := Aside0.mk gb10; have GG10 := Aside0.mk HG10; clear gb10 gl10 HG10; obtain ⟨ce10, hcl10, hM10, hcc10, hfr10⟩ := Kd.R_elem HO_3.out Qca (x4_1 : Int) p10 q10; obtain rfl := k_impl_Op_openM hM10; have hx10_0 : w11.cell? ⟨go10, (x4_1 : Int).toNat * 2, none⟩ = some (.int .i64 ((QaH x3_1 x4_1).f0)) := hcc10 0 _ rfl; have hx10_1 : w11.cell? ⟨go10, (x4_1 : Int).toNat * 2 + 1, none⟩ = some (.int .i64 ((QaH x3_1 x4_1).f1)) := hcc10 1 _ rfl; have hf10_0 : w11.frozen? ⟨go10, (x4_1 : Int).toNat * 2, none⟩ = false := hfr10 0; have hf10_1 : w11.frozen? ⟨go10, (x4_1 : Int).toNat * 2 + 1, none⟩ = false := hfr10 1; clear hcl10 hcc10 hfr10 hM10; replace p10 := eq_true p10; replace q10 := eq_true q10; have HX12 := Aside0.mk (show Kd.R Qbk 83 w11 w.heap.size (fun _ => True) (.slice (some ⟨go10, 0, none⟩) x3_1.length co10) x3_1 from (by (refine QbI ?_); exact HO_3.out)); obtain ⟨ce12, hcl12, hM12, hcc12, hfr12⟩ := Kd.R_elem HX12.out Qca (x4_1 : Int) (of_decide_eq_true (by first | (with_reducible assumption) | assumption)) (by have h_ : (x4_1 : Int) < ((x3_1.length : Int) : Int) := of_decide_eq_true (by first | (with_reducible assumption) | assumption); first | exact h_ | (have e_ := (Kd.R_reads' HO_3.out).1; omega) | simpa using h_); obtain rfl := k_impl_Op_openM hM12; have HP12 := Kd.R_seg HX12.out (x4_1 : Int) (of_decide_eq_true (by first | (with_reducible assumption) | assumption)) (by have h_ : (x4_1 : Int) < ((x3_1.length : Int) : Int) := of_decide_eq_true (by first | (with_reducible assumption) | assumption); first | exact h_ | (have e_ := (Kd.R_reads' HO_3.out).1; omega) | simpa using h_) (seg := [.int .i64 t105, .int .i64 t106]) (j := 0) hcl12 hcc12 (show 2 ≤ 2 from by decide) (x' := (⟨t105, t106⟩ : QaW)) (k_impl_Op_mkM _ _ _ (⟨t105, t106⟩ : QaW) ) (fun _ hk => hk); have hx12_0 := hcc12 0 _ rfl; (try simp only [show (Qbk).sz = 2 from rfl, Nat.mul_one, Nat.add_zero] at hx12_0); have hf12_0 := hfr12 0; (try simp only [show (Qbk).sz = 2 from rfl, Nat.mul_one, Nat.add_zero] at hf12_0); have hx12_1 := hcc12 1 _ rfl; (try simp only [show (Qbk).sz = 2 from rfl, Nat.mul_one, Nat.add_zero] at hx12_1); have hf12_1 := hfr12 1; (try simp only [show (Qbk).sz = 2 from rfl, Nat.mul_one, Nat.add_zero] at hf12_1); clear hcl12 hcc12 hfr12 hM12) | ((with_reducible refine gate_store (t := 83) (p := 21) rfl ?_); refine QcQ (t := 83) (p := 21) (v := ?vo_w13) (w1 := ((w11.setCell ⟨go10, (x4_1 : Int).toNat * 2, none⟩ (.int .i64 t105)).setCell ⟨go10, (x4_1 : Int).toNat * 2 + 1, none⟩ (.int .i64 t106))) ?hg ?ho ?hn ?hr ?_; (case ho => rfl); (case hg => rfl); (case hn => rfl); (case hr => first | (go_simp; done) | (go_simp; rfl)); intro w13 hw; have hg : w11.grownBy w13 (some go10) := (by rw [hw]; exact HP12.2); have hp_ : Kd.R Qbk 83 w13 w.heap.size (fun _ => True) (.slice (some ⟨go10, 0, none⟩) x3_1.length co10) y107 := (by rw [hw, Ny107.out]; exact HP12.1); clear HP12; have n0_ := Aside0.mk (hp_); have n1_ := Aside0.mk ((by rw [hw]; exact Qbt (Qbt (HB.out) GB10.out) GB10.out : Below w.heap.size w w13)); clear HO_3; clear HB; have HO_3 := n0_; have HB := n1_; clear n0_ n1_; clear hg hw hp_))
              go_roundg k1
              case measure => have := HK1.out; omega
              case rel => exact ⟨(y107), (wrap64 (x4_1 + 1)), (by first | rfl | (simp; done) | (simp [*]; done)), H', ⟨by have := HK1.out; omega⟩, ⟨by (refine QbI ?_); exact HO_3.out⟩, ⟨bw_⟩⟩
            · rw [if_neg c9] at H
              exact absurd H (by simp)
          · rw [if_neg c7] at H
            exact absurd H (by simp)
        · rw [if_neg c6] at H
          have c6b0 : decide (x4_1 < (l0.length : Int)) = false := decide_eq_false c6
          clear c6
          obtain rfl := Option.some.inj H
          go_wp2
          go_ret
          exact ⟨_, by first | rfl | (simp [Qaf, Qag] <;> rfl) | (simp [*, Qaf, Qag] <;> rfl), by (refine QbI ?_); exact HO_3.out, bw_⟩
   · rw [if_neg c3] at H
     exact absurd H (by simp)
 · rw [if_neg c2] at H
   exact absurd H (by simp)
end Go.Proofs.Ytabcijheemjplaa.G
namespace Go.Proofs.Ytabcijheemjplaa.G
open Go.RowKit Go.Proofs.YtabcijheemjplaaW.PrintWords Go.Proofs.YtabcijheemjplaaW.PrintLast Go.Proofs.YtabcijheemjplaaW.PrintMore
attribute [local go_sem] Qa3 Qa4 Qbc Qbd QaP QaQ Qa5 Qa6
set_option linter.unusedVariables false
set_option linter.unusedSimpArgs false
def Qby.f (k : Nat) (a0_0 : Int) (a0_1 : Int) (l0_2 : List (Qbw)) : Option (Int × Int × (List (QaW))) := (Qbb.f k l0_2).bind fun t104 => (some (a0_0, a0_1, t104))
theorem Qby.mono : ∀ a0 a1 a2 k, LeO (Qby.f k a0 a1 a2) (Qby.f (k + 1) a0 a1 a2) := by
 intro a0 a1 a2 k
 unfold Qby.f
 repeat' first
  | (with_reducible exact Qbb.mono _ _)
  | (with_reducible exact LeO.refl _)
  | (with_reducible exact LeO.none _)
  | (with_reducible refine LeO.ite ?_ ?_)
  | (with_reducible refine LeO.bind ?_ (fun _ => ?_))
  | exact Qbb.mono _ _
  | exact LeO.none _
  | refine LeO.ite ?_ ?_
  | refine LeO.bind ?_ (fun _ => ?_)
set_option maxHeartbeats 8000000 in
set_option maxRecDepth 100000 in
theorem Qby.calls (k : Nat) (a0_0 : Int) (a0_1 : Int) (A0_2 : Option Addr) (c0_2 : Nat) (l0_2 : List (Qbw)) (r1 : Int) (r2 : Int) (r3 : List (QaW)) (w : World) (hr0_2 : Kd.C Qb_ w A0_2 l0_2.length l0_2) (hc0_2 : l0_2.length ≤ c0_2) (h : Qby.f k a0_0 a0_1 l0_2 = some (r1, r2, r3)) :
 Calls Try.prog 112 #[.agg #[.int .i64 a0_0, .int .i64 a0_1, .slice A0_2 l0_2.length c0_2]] w fun e w' => ∃ v2_ : Value, e = .returned (.agg #[.int .i64 r1, .int .i64 r2, v2_]) ∧ Kd.R Qbk 83 w' w.heap.size (fun _ => True) v2_ r3 ∧ Below w.heap.size w w' := by
 have hu136 := Try.underlying136
 have hu34 := Try.underlying34
 have HR0_2 := Aside0.mk hr0_2
 have HC0_2 := Aside0.mk hc0_2
 clear hr0_2 hc0_2
 have HB := Aside0.mk (Below.refl w.heap.size w)
 have H : ((Qbb.f k l0_2).bind fun t104 => (some (a0_0, a0_1, t104))) = some (r1, r2, r3) := h
 clear h
 replace H := Option.bind_eq_some_iff.mp H
 obtain ⟨t104, A20, H⟩ := H
 replace H : (some (a0_0, a0_1, t104)) = some (r1, r2, r3) := H
 have A2 := Aside0.mk A20
 clear A20
 simp only [Option.some.injEq, Prod.mk.injEq] at H
 obtain ⟨rfl, rfl, rfl⟩ := H
 go_enter Try.func112, Try.ntmps112
 go_wp2_with (first | ((with_reducible refine Qaq (N := 1) rfl ?_); refine Qam ?hg (N := 1) ?hd (cs := #[.int .i64 a0_0, .int .i64 a0_1, .slice A0_2 l0_2.length c0_2]) (t := 136) ?hr ?_; (case hd => rfl); (case hg => rfl); (case hr => first | (go_simp; done) | (go_simp; rfl)); intro gb101 hg w3 hbox hb; have n0_ := Aside0.mk (Qac (bw_) hb); have n1_ := Aside0.mk (hbox); have n2_ := Aside0.mk ((gs_ hg bw_ : w.heap.size ≤ gb101)); have n3_ := Aside0.mk ((gs_ hg bw_ : w.heap.size ≤ gb101)); clear HB; have HB := n0_; have BK101 := n1_; have GW101 := n2_; have GE101 := n3_; clear n0_ n1_ n2_ n3_; clear hb hbox hg) | ((with_reducible refine Qaq (N := 2) rfl ?_); refine Qam ?hg (N := 2) ?hd (cs := #[.int .i64 0, .int .i64 0, .slice none 0 0]) (t := 34) ?hr ?_; (case hd => rfl); (case hg => rfl); (case hr => first | (go_simp; done) | (go_simp; rfl)); intro gb102 hg w4 hbox hb; have n0_ := Aside0.mk (bb_ BK101 hb); have n1_ := Aside0.mk (Qac (bw_) hb); have n2_ := Aside0.mk (hbox); have n3_ := Aside0.mk ((gs_ hg bw_ : w.heap.size ≤ gb102)); have n4_ := Aside0.mk ((gs_ hg bw_ : w.heap.size ≤ gb102)); have n5_ := Aside0.mk ((nl_ hg BK101 : gb101 ≠ gb102)); have n6_ := Aside0.mk ((ng_ hg BK101 : gb102 ≠ gb101)); clear BK101; clear HB; have BK101 := n0_; have HB := n1_; have BK102 := n2_; have GW102 := n3_; have GE102 := n4_; have NB101_102 := n5_; have NB102_101 := n6_; clear n0_ n1_ n2_ n3_ n4_ n5_ n6_; clear hb hbox hg) | ((with_reducible refine Qaq (N := 3) rfl ?_); refine Qam ?hg (N := 3) ?hd (cs := #[.int .i64 0, .int .i64 0, .slice none 0 0]) (t := 34) ?hr ?_; (case hd => rfl); (case hg => rfl); (case hr => first | (go_simp; done) | (go_simp; rfl)); intro gb103 hg w5 hbox hb; have n0_ := Aside0.mk (bb_ BK101 hb); have n1_ := Aside0.mk (bb_ BK102 hb); have n2_ := Aside0.mk (Qac (bw_) hb); have n3_ := Aside0.mk (hbox); have n4_ := Aside0.mk ((gs_ hg bw_ : w.heap.size ≤ gb103)); have n5_ := Aside0.mk ((gs_ hg bw_ : w.heap.size ≤ gb103)); have n6_ := Aside0.mk ((nl_ hg BK101 : gb101 ≠ gb103)); have n7_ := Aside0.mk ((ng_ hg BK101 : gb103 ≠ gb101)); have n8_ := Aside0.mk ((nl_ hg BK102 : gb102 ≠ gb103)); have n9_ := Aside0.mk ((ng_ hg BK102 : gb103 ≠ gb102)); clear BK101; clear BK102; clear HB; have BK101 := n0_; have BK102 := n1_; have HB := n2_; have BK103 := n3_; have GW103 := n4_; have GE103 := n5_; have NB101_103 := n6_; have NB103_101 := n7_; have NB102_103 := n8_; have NB103_102 := n9_; clear n0_ n1_ n2_ n3_ n4_ n5_ n6_ n7_ n8_ n9_; clear hb hbox hg; have hnb6 := NB101_102.out; have hnc6 := NB102_101.out; have hnb7 := NB101_103.out; have hnc7 := NB103_101.out; obtain ⟨hcz8_0, hcz8_1, hcz8_2, hfz8_0, hfz8_1, hfz8_2⟩ := QcF BK101.out; have hnb9 := NB103_102.out; have hnc9 := NB102_103.out; obtain ⟨hcz10_0, hcz10_1, hcz10_2, hfz10_0, hfz10_1, hfz10_2⟩ := QcF BK103.out) | ((with_reducible refine Qal (f := 132) rfl ?_); refine QaU (some 12) rfl rfl Try.func132 (by kernel_rfl) rfl #[.slice A0_2 l0_2.length c0_2] rfl (by (try simp only [List.map_toArray, List.map_cons, List.map_nil]); first | done | rfl | (simp only [List.length_drop, List.length_take]; rfl)) ?_; (with_reducible refine (Qbb.calls k _ _ l0_2 t104 _ ?side1 ?side2 A2.out).mono ?_); (case side1 => exact Kd.C_below HR0_2.out (bw_)); (case side2 => exact HC0_2.out); rintro e w11 ⟨v105, rfl, ho0, hb⟩; refine ⟨_, rfl, ?_⟩; have n0_ := Aside0.mk (Kd.R_lower ho0 (QaE (bw_))); have n1_ := Aside0.mk (QaV (g := gb101) (o := .cells #[.int .i64 a0_0, .int .i64 a0_1, .slice A0_2 l0_2.length c0_2] 136 (0, 0)) (by (refine kb_ ?_); refine Qar ?_ NB101_103.out _; (refine kb_ ?_); refine Qar ?_ NB101_103.out _; (refine kb_ ?_); exact BK101.out) hb); have n2_ := Aside0.mk (QaV (g := gb102) (o := .cells #[.int .i64 0, .int .i64 0, .slice none 0 0] 34 (0, 0)) (by (refine kb_ ?_); refine Qar ?_ NB102_103.out _; (refine kb_ ?_); refine Qar ?_ NB102_103.out _; (refine kb_ ?_); exact BK102.out) hb); have n3_ := Aside0.mk (QaV (g := gb103) (o := .cells #[.int .i64 a0_0, .int .i64 a0_1, .slice none 0 0] 34 (0, 0)) (by (refine kb_ ?_); refine Qa1 (cs := #[.int .i64 a0_0, .int .i64 0, .slice none 0 0]) ?_ 1 _ rfl; (refine kb_ ?_); refine Qa1 (cs := #[.int .i64 0, .int .i64 0, .slice none 0 0]) ?_ 0 _ rfl; (refine kb_ ?_); exact BK103.out) hb); have n4_ := Aside0.mk (Qac (bw_) hb); clear BK101; clear BK102; clear BK103; clear HB; have HO106 := n0_; have BK101 := n1_; have BK102 := n2_; have BK103 := n3_; have HB := n4_; clear n0_ n1_ n2_ n3_ n4_; (try clear hb); (try clear hb2); (try clear hk); (try clear hi); (try clear ho0); obtain ⟨Ao12, co12, eo12⟩ := Kd.R_slice HO106.out; subst eo12; obtain ⟨hcz13_0, hcz13_1, hcz13_2, hfz13_0, hfz13_1, hfz13_2⟩ := QcF BK103.out; obtain ⟨hcz14_0, hcz14_1, hcz14_2, hfz14_0, hfz14_1, hfz14_2⟩ := QcF BK102.out))
 refine bodyPost_ret (results_cell_row rfl _ _ gb102 34 #[.int .i64 a0_0, .int .i64 a0_1, .slice Ao12 t104.length co12] (0, 0) _ rfl (by (refine kb_ ?_); refine Qa1 (cs := #[.int .i64 a0_0, .int .i64 a0_1, .slice none 0 0]) ?_ 2 _ rfl; (refine kb_ ?_); refine Qa1 (cs := #[.int .i64 a0_0, .int .i64 0, .slice none 0 0]) ?_ 1 _ rfl; (refine kb_ ?_); refine Qa1 (cs := #[.int .i64 0, .int .i64 0, .slice none 0 0]) ?_ 0 _ rfl; (refine kb_ ?_); refine Qar ?_ NB102_103.out _; (refine kb_ ?_); exact BK102.out) Try.underlying34 rfl (by kernel_rfl)) rfl ?_
 exact ⟨_, by first | rfl | (simp [Qaf, Qag] <;> rfl) | (simp [*, Qaf, Qag] <;> rfl), by (refine QbI ?_); exact Kd.R_mono (Kd.R_far (p := ⟨gb102, 2, none⟩) (Kd.R_far (p := ⟨gb102, 1, none⟩) (Kd.R_far (p := ⟨gb102, 0, none⟩) (Kd.R_far (p := ⟨gb103, 2, none⟩) (Kd.R_types (Kd.R_types HO106.out BK103.out (by decide)) BK102.out (by decide)) (fun _ hk => hk.1.2) (.slice Ao12 t104.length co12)) (fun _ hk => hk.2) (.int .i64 a0_0)) (fun _ hk => hk.2) (.int .i64 a0_1)) (fun _ hk => hk.2) (.slice Ao12 t104.length co12)) (fun _ hk => trivial), bw_⟩
end Go.Proofs.Ytabcijheemjplaa.G
namespace Go.Proofs.Ytabcijheemjplaa.G
open Go.RowKit Go.Proofs.YtabcijheemjplaaW.PrintWords Go.Proofs.YtabcijheemjplaaW.PrintLast Go.Proofs.YtabcijheemjplaaW.PrintMore
attribute [local go_sem] Qa3 Qa4 Qbc Qbd QaP QaQ Qa5 Qa6
set_option linter.unusedVariables false
set_option linter.unusedSimpArgs false
def QaM.l0 : Nat → List (Qa0) → List (Qai) → Int → Option ((List (Qai)))
 | 0, _, _, _ => none
 | k + 1, x0, x3, x4 => if x4 < (x0.length : Int) then (if 0 ≤ x4 then ((Qby.f k ((QaR x0 x4).f0) ((QaR x0 x4).f1) ((QaR x0 x4).f2)).bind fun bt105 => (if x4 < (x3.length : Int) then (QaM.l0 k x0 (x3.set (x4 : Int).toNat (⟨bt105.1, bt105.2.1, bt105.2.2⟩ : Qai)) (wrap64 (x4 + 1))) else (none))) else (none)) else (some x3)
def QaM.f (k : Nat) (l0 : List (Qa0)) : Option ((List (Qai))) := if 0 ≤ (l0.length : Int) then (if ((l0.length : Int) : Int).toNat ≤ 7036874417766 then (QaM.l0 k l0 (List.replicate ((l0.length : Int) : Int).toNat QbH) 0) else (none)) else (none)
theorem QaM.mono_l : ∀ k, (∀ y0 y1 y2, LeO (QaM.l0 k y0 y1 y2) (QaM.l0 (k + 1) y0 y1 y2))
 | 0 => fun _ _ _ r h => by simp [QaM.l0] at h
 | k + 1 => by
   have ih0 := QaM.mono_l k
   · intro y0 y1 y2
     unfold QaM.l0
     repeat' first
     | (with_reducible exact ih0 _ _ _)
     | (with_reducible exact Qby.mono _ _ _ _)
     | (with_reducible exact LeO.refl _)
     | (with_reducible exact LeO.none _)
     | (with_reducible refine LeO.ite ?_ ?_)
     | (with_reducible refine LeO.bind ?_ (fun _ => ?_))
     | exact ih0 _ _ _
     | exact Qby.mono _ _ _ _
     | exact LeO.none _
     | refine LeO.ite ?_ ?_
     | refine LeO.bind ?_ (fun _ => ?_)
theorem QaM.mono : ∀ a0 k, LeO (QaM.f k a0) (QaM.f (k + 1) a0) := by
 intro a0 k
 have ih0 := QaM.mono_l k
 unfold QaM.f
 repeat' first
  | (with_reducible exact ih0 _ _ _)
  | (with_reducible exact Qby.mono _ _ _ _)
  | (with_reducible exact LeO.refl _)
  | (with_reducible exact LeO.none _)
  | (with_reducible refine LeO.ite ?_ ?_)
  | (with_reducible refine LeO.bind ?_ (fun _ => ?_))
  | exact ih0 _ _ _
  | exact Qby.mono _ _ _ _
  | exact LeO.none _
  | refine LeO.ite ?_ ?_
  | refine LeO.bind ?_ (fun _ => ?_)
set_option maxHeartbeats 8000000 in
set_option maxRecDepth 100000 in
theorem QaM.calls (k : Nat) (A0 : Option Addr) (c0 : Nat) (l0 : List (Qa0)) (r : List (Qai)) (w : World) (hr0 : Kd.C QbG w A0 l0.length l0) (hc0 : l0.length ≤ c0) (h : QaM.f k l0 = some r) :
 Calls Try.prog 70 #[.slice A0 l0.length c0] w fun e w' => ∃ v0_ : Value, e = .returned (v0_) ∧ Kd.S QaI 34 w' w.heap.size (fun _ => True) v0_ r ∧ Below w.heap.size w w' := by
 have hu136 := Try.underlying136
 have hu34 := Try.underlying34
 have HR0 := Aside0.mk hr0
 have HC0 := Aside0.mk hc0
 clear hr0 hc0
 have HB := Aside0.mk (Below.refl w.heap.size w)
 have H : (if 0 ≤ (l0.length : Int) then (if ((l0.length : Int) : Int).toNat ≤ 7036874417766 then (QaM.l0 k l0 (List.replicate ((l0.length : Int) : Int).toNat QbH) 0) else (none)) else (none)) = some r := h
 clear h
 by_cases c2 : 0 ≤ (l0.length : Int)
 · rw [if_pos c2] at H
   have c2b0 := eq_true c2
   have c2b1 : decide (0 ≤ (l0.length : Int)) = true := decide_eq_true c2
   clear c2
   by_cases c3 : ((l0.length : Int) : Int).toNat ≤ 7036874417766
   · rw [if_pos c3] at H
     have c3b0 := eq_true c3
     have c3b1 : decide (((l0.length : Int) : Int).toNat ≤ 7036874417766) = true := decide_eq_true c3
     clear c3
     obtain ⟨y101, hy101⟩ : ∃ y_ : List (Qai), y_ = (List.replicate ((l0.length : Int) : Int).toNat QbH) := ⟨_, rfl⟩
     replace H : (QaM.l0 k l0 y101 0) = some r := by first | (rw [hy101]; with_reducible exact H) | (have H2_ := (Option.bind_some _ _).symm.trans H; rw [hy101]; with_reducible exact H2_) | (have H2_ := (Option.bind_some _ _).symm.trans H; with_reducible exact H2_) | with_reducible exact H | (rw [hy101]; exact H) | exact H
     have Ny101 := Aside0.mk hy101
     clear hy101
     have H' := Aside0.mk H
     clear H
     go_enter Try.func70, Try.ntmps70
     go_wp2_with (first | ((with_reducible refine Qaq (N := 7) rfl ?_); refine Kd.S_make QaI _ 34 rfl (N := 7) rfl 23 _ _ rfl (l0.length : Int) rfl rfl Try.underlying23 (.agg #[(.int .i64 0), (.int .i64 0), (.slice none 0 0)]) 40 info34 rfl (by decide) (by omega) QbH (ok := fun _ => True) (okp := fun _ => True) (QcL _ _ _ QbH (Kd.R_nil _ _ _ _ _)) (fun _ hk => hk) trivial (of_decide_eq_true (by first | (with_reducible assumption) | assumption)) (Nat.le_trans (Nat.mul_le_mul_right _ (of_decide_eq_true (by first | (with_reducible assumption) | assumption) : (l0.length : Int).toNat ≤ 7036874417766)) (by omega)) (Below.refl _ _) (Nat.le_refl _) ?_; intro v102 w4 ho5 hb hg_ hnew_; clear hg_ hnew_; (first | rw [← Ny101.out] at ho5 | (simp only [Int.reduceToNat] at ho5; rw [← Ny101.out] at ho5)); have n0_ := Aside0.mk (Kd.S_lower ho5 (QaE (bw_))); have n1_ := Aside0.mk (Qac (bw_) hb); clear HB; have HO103 := n0_; have HB := n1_; clear n0_ n1_; clear hb ho5))
     go_loopg [4] k (fun kq v4 w' => ∃ (x3_1 : List (Qai)) (x4_1 : Int), v4 = .int .i64 x4_1 ∧ Aside0 (QaM.l0 kq l0 x3_1 x4_1 = some r) ∧ Aside0 (kq ≤ k) ∧ Aside0 (Kd.S QaI 34 w' w.heap.size (fun _ => True) v102 x3_1) ∧ Aside0 (Below w.heap.size w w'))
     case atStart => exact ⟨(y101), (0), (by first | rfl | (simp; done) | (simp [*]; done)), H', ⟨Nat.le_refl _⟩, ⟨by (refine Qbo ?_); exact HO103.out⟩, ⟨bw_⟩⟩
     case round =>
      clear H'
      try clear c2
      try clear c2b0
      try clear c2b1
      try clear p2
      try clear c3
      try clear c3b0
      try clear c3b1
      obtain ⟨x3_1, x4_1, rfl, HA, HK1, HO_3, HB⟩ := hrel
      cases gk with
      | zero => exact absurd HA.out (by simp [QaM.l0])
      | succ k1 =>
        have H := HA.out
        clear HA
        simp only [QaM.l0] at H
        by_cases c6 : x4_1 < (l0.length : Int)
        · rw [if_pos c6] at H
          have c6b0 : decide (x4_1 < (l0.length : Int)) = true := decide_eq_true c6
          clear c6
          by_cases c7 : 0 ≤ x4_1
          · rw [if_pos c7] at H
            have c7b0 : decide (0 ≤ x4_1) = true := decide_eq_true c7
            clear c7
            replace H := Option.bind_eq_some_iff.mp H
            obtain ⟨⟨t105, t106, t107⟩, A80, H⟩ := H
            replace H : (if x4_1 < (x3_1.length : Int) then (QaM.l0 k1 l0 (x3_1.set (x4_1 : Int).toNat (⟨t105, t106, t107⟩ : Qai)) (wrap64 (x4_1 + 1))) else (none)) = some r := H
            have A8 := Aside0.mk A80
            clear A80
            by_cases c9 : x4_1 < (x3_1.length : Int)
            · rw [if_pos c9] at H
              have c9b0 : decide (x4_1 < (x3_1.length : Int)) = true := decide_eq_true c9
              clear c9
              obtain ⟨y110, hy110⟩ : ∃ y_ : List (Qai), y_ = (x3_1.set (x4_1 : Int).toNat (⟨t105, t106, t107⟩ : Qai)) := ⟨_, rfl⟩
              replace H : (QaM.l0 k1 l0 y110 (wrap64 (x4_1 + 1))) = some r := by first | (rw [hy110]; with_reducible exact H) | (have H2_ := (Option.bind_some _ _).symm.trans H; rw [hy110]; with_reducible exact H2_) | (have H2_ := (Option.bind_some _ _).symm.trans H; with_reducible exact H2_) | with_reducible exact H | (rw [hy110]; exact H) | exact H
              have Ny110 := Aside0.mk hy110
              clear hy110
              have H' := Aside0.mk H
              clear H
              have p104 : 0 ≤ (x4_1 : Int) := of_decide_eq_true (by first | (with_reducible assumption) | assumption)
              have q104 : x4_1 < (l0.length : Int) := of_decide_eq_true (by first | (with_reducible assumption) | assumption)
              obtain ⟨ad104, A104_2, c104_2, e104, hx104_0, hx104_1, hx104_2, hl104_2, hi104_2⟩ := QcI HR0.out x4_1 p104 q104
              cases e104
              replace hx104_0 := pc_ HB hx104_0
              replace hx104_1 := pc_ HB hx104_1
              replace hx104_2 := pc_ HB hx104_2
              have HR104_2 := Aside0.mk hi104_2
              have HC104_2 := Aside0.mk hl104_2
              clear hi104_2 hl104_2
              replace p104 := eq_true p104
              replace q104 := eq_true q104
              go_wp2_with (first | ((with_reducible refine Qal (f := 112) rfl ?_); refine QaU (some 20) rfl rfl Try.func112 (by kernel_rfl) rfl #[.agg #[.int .i64 ((QaR l0 x4_1).f0), .int .i64 ((QaR l0 x4_1).f1), .slice A104_2 ((QaR l0 x4_1).f2).length c104_2]] rfl (by (try simp only [List.map_toArray, List.map_cons, List.map_nil]); first | done | rfl | (simp only [List.length_drop, List.length_take]; rfl)) ?_; (with_reducible refine (Qby.calls k1 ((QaR l0 x4_1).f0) ((QaR l0 x4_1).f1) _ _ ((QaR l0 x4_1).f2) t105 t106 t107 _ ?side1 ?side2 A8.out).mono ?_); (case side1 => exact cb_); (case side2 => exact HC104_2.out); rintro e w11 ⟨v108, rfl, ho0, hb⟩; refine ⟨_, rfl, ?_⟩; have n0_ := Aside0.mk (Kd.S_elder' (by (refine Qbo ?_); exact HO_3.out) (Kd.R_base ho0) hb); have n1_ := Aside0.mk (Kd.R_lower ho0 (QaE (bw_))); have n2_ := Aside0.mk (Qac (bw_) hb); clear HO_3; clear HB; have HO_3 := n0_; have HO109 := n1_; have HB := n2_; clear n0_ n1_ n2_; (try clear hb); (try clear hb2); (try clear hk); (try clear hi); (try clear ho0); have p10 : 0 ≤ (x4_1 : Int) := of_decide_eq_true (by first | (with_reducible assumption) | assumption); have q10 : (x4_1 : Int) < ((x3_1.length : Int) : Int) := of_decide_eq_true (by first | (with_reducible assumption) | assumption); obtain ⟨go10, co10, eo10, gb10, gl10, cl10, HG10⟩ := Kd.S_form HO_3.out (by omega); (first | cases eo10 | (injection eo10 with ea_ en_ ec_; (first | subst ea_ | (injection ea_ with ea_; subst ea_)); subst ec_; clear en_)); have GB10 := Aside0.mk gb10; have GG10 := Aside0.mk HG10; clear gb10 gl10 HG10; obtain ⟨_, ce10, hcl10, hM10, hcc10, hfr10, _, _⟩ := Kd.S_elem HO_3.out QbH (x4_1 : Int) p10 q10; obtain ⟨ve10_2, rfl, ge10_2⟩ := Qcz hM10; have hx10_0 : w11.cell? ⟨go10, (x4_1 : Int).toNat * 3, none⟩ = some (.int .i64 ((Qae x3_1 x4_1).f0)) := hcc10 0 _ rfl; have hx10_1 : w11.cell? ⟨go10, (x4_1 : Int).toNat * 3 + 1, none⟩ = some (.int .i64 ((Qae x3_1 x4_1).f1)) := hcc10 1 _ rfl; have hx10_2 : w11.cell? ⟨go10, (x4_1 : Int).toNat * 3 + 2, none⟩ = some (ve10_2) := hcc10 2 _ rfl; have hf10_0 : w11.frozen? ⟨go10, (x4_1 : Int).toNat * 3, none⟩ = false := hfr10 0; have hf10_1 : w11.frozen? ⟨go10, (x4_1 : Int).toNat * 3 + 1, none⟩ = false := hfr10 1; have hf10_2 : w11.frozen? ⟨go10, (x4_1 : Int).toNat * 3 + 2, none⟩ = false := hfr10 2; clear hcl10 hcc10 hfr10 hM10; replace p10 := eq_true p10; replace q10 := eq_true q10; have n_ := Aside0.mk (Kd.S_mono (ok' := (fun k_ => some k_ ≠ (v108 : Value).ownBlock)) HO_3.out (fun k_ hk => hk.2)); clear HO_3; have HO_3 := n_; clear n_; have HX12 := Aside0.mk (show Kd.S QaI 34 w11 w.heap.size (fun k_ => ((fun _ => True)) k_ ∧ ¬ ((fun k_ => some k_ = (v108 : Value).ownBlock)) k_) (.slice (some ⟨go10, 0, none⟩) x3_1.length co10) x3_1 from (by (refine Qbo ?_); exact Kd.S_mono HO_3.out (fun k_ hk => ⟨trivial, fun e_ => hk e_⟩))); obtain ⟨oki12, ce12, hcl12, hM12, hcc12, hfr12, hoki12, hH12⟩ := Kd.S_elem HX12.out QbH (x4_1 : Int) (of_decide_eq_true (by first | (with_reducible assumption) | assumption)) (by have h_ : (x4_1 : Int) < ((x3_1.length : Int) : Int) := of_decide_eq_true (by first | (with_reducible assumption) | assumption); first | exact h_ | (have e_ := (Kd.S_reads' HO_3.out).1; omega) | simpa using h_); obtain ⟨ve12_2, rfl, ge12_2⟩ := Qcz hM12; have HP12 := Kd.S_seg hH12 (of_decide_eq_true (by first | (with_reducible assumption) | assumption)) (by have h_ : (x4_1 : Int) < ((x3_1.length : Int) : Int) := of_decide_eq_true (by first | (with_reducible assumption) | assumption); first | exact h_ | (have e_ := (Kd.S_reads' HO_3.out).1; omega) | simpa using h_) (seg := [.int .i64 t105, .int .i64 t106, v108]) (j := 0) (show 3 ≤ 3 from by decide) (x' := (⟨t105, t106, t107⟩ : Qai)) (QcL _ _ _ (⟨t105, t106, t107⟩ : Qai) (Kd.R_mono (Kd.R_tight rfl (Kd.R_mono (ok' := fun k_ => ((fun _ => True)) k_ ∧ k_ ≠ go10) (Kd.R_apart' (HO109.out) (Kd.S_typed HO_3.out) (by decide)) (fun k_ hk => ⟨trivial, fun e_ => (hk.2) (by rw [e_]; rfl)⟩))) (fun _ h_ => Or.inr (h_)))) (fun _ hk => hk) (fun k_ hk_ => ((Kd.R_mono (ok' := fun k_ => ((fun _ => True)) k_ ∧ k_ ≠ go10) (Kd.R_apart' (HO109.out) (Kd.S_typed HO_3.out) (by decide)) (fun k_ hk => ⟨trivial, fun e_ => (hk.2) (by rw [e_]; rfl)⟩))).1 k_ hk_.symm); have hx12_0 := hcc12 0 _ rfl; (try simp only [show (QaI).sz = 3 from rfl, Nat.mul_one, Nat.add_zero] at hx12_0); have hf12_0 := hfr12 0; (try simp only [show (QaI).sz = 3 from rfl, Nat.mul_one, Nat.add_zero] at hf12_0); have hx12_1 := hcc12 1 _ rfl; (try simp only [show (QaI).sz = 3 from rfl, Nat.mul_one, Nat.add_zero] at hx12_1); have hf12_1 := hfr12 1; (try simp only [show (QaI).sz = 3 from rfl, Nat.mul_one, Nat.add_zero] at hf12_1); have hx12_2 := hcc12 2 _ rfl; (try simp only [show (QaI).sz = 3 from rfl, Nat.mul_one, Nat.add_zero] at hx12_2); have hf12_2 := hfr12 2; (try simp only [show (QaI).sz = 3 from rfl, Nat.mul_one, Nat.add_zero] at hf12_2); clear hcl12 hcc12 hfr12 hM12 hoki12 hH12) | ((with_reducible refine gate_store (t := 34) (p := 21) rfl ?_); refine QcQ (t := 34) (p := 21) (v := ?vo_w13) (w1 := (((w11.setCell ⟨go10, (x4_1 : Int).toNat * 3, none⟩ (.int .i64 t105)).setCell ⟨go10, (x4_1 : Int).toNat * 3 + 1, none⟩ (.int .i64 t106)).setCell ⟨go10, (x4_1 : Int).toNat * 3 + 2, none⟩ (v108))) ?hg ?ho ?hn ?hr ?_; (case ho => rfl); (case hg => rfl); (case hn => rfl); (case hr => (try (obtain ⟨A_, c_, e_⟩ := Kd.R_slice HO109.out; subst e_)); first | (go_simp; done) | (go_simp; rfl)); intro w13 hw; have hg : w11.grownBy w13 (some go10) := (by rw [hw]; exact HP12.2); have hp_ : Kd.S QaI 34 w13 w.heap.size (fun _ => True) (.slice (some ⟨go10, 0, none⟩) x3_1.length co10) y110 := (by rw [hw, Ny110.out]; exact HP12.1); clear HP12; have n0_ := Aside0.mk (hp_); have n1_ := Aside0.mk ((by rw [hw]; exact Qbt (Qbt (Qbt (HB.out) GB10.out) GB10.out) GB10.out : Below w.heap.size w w13)); clear HO_3; clear HB; clear HO109; have HO_3 := n0_; have HB := n1_; clear n0_ n1_; clear hg hw hp_))
              go_roundg k1
              case measure => have := HK1.out; omega
              case rel => exact ⟨(y110), (wrap64 (x4_1 + 1)), (by first | rfl | (simp; done) | (simp [*]; done)), H', ⟨by have := HK1.out; omega⟩, ⟨by (refine Qbo ?_); exact HO_3.out⟩, ⟨bw_⟩⟩
            · rw [if_neg c9] at H
              exact absurd H (by simp)
          · rw [if_neg c7] at H
            exact absurd H (by simp)
        · rw [if_neg c6] at H
          have c6b0 : decide (x4_1 < (l0.length : Int)) = false := decide_eq_false c6
          clear c6
          obtain rfl := Option.some.inj H
          go_wp2
          go_ret
          exact ⟨_, by first | rfl | (simp [Qaf, Qag] <;> rfl) | (simp [*, Qaf, Qag] <;> rfl), by (refine Qbo ?_); exact HO_3.out, bw_⟩
   · rw [if_neg c3] at H
     exact absurd H (by simp)
 · rw [if_neg c2] at H
   exact absurd H (by simp)
end Go.Proofs.Ytabcijheemjplaa.G
namespace Go.Proofs.Ytabcijheemjplaa.G
open Go.RowKit Go.Proofs.YtabcijheemjplaaW.PrintWords Go.Proofs.YtabcijheemjplaaW.PrintLast Go.Proofs.YtabcijheemjplaaW.PrintMore
attribute [local go_sem] Qa3 Qa4 Qbc Qbd QaP QaQ Qa5 Qa6
set_option linter.unusedVariables false
set_option linter.unusedSimpArgs false
def QaT.f (k : Nat) (l0_0 : List (Qa0)) : Option ((List (Qai))) := (QaM.f k l0_0).bind fun t104 => (some t104)
theorem QaT.mono : ∀ a0 k, LeO (QaT.f k a0) (QaT.f (k + 1) a0) := by
 intro a0 k
 unfold QaT.f
 repeat' first
  | (with_reducible exact QaM.mono _ _)
  | (with_reducible exact LeO.refl _)
  | (with_reducible exact LeO.none _)
  | (with_reducible refine LeO.ite ?_ ?_)
  | (with_reducible refine LeO.bind ?_ (fun _ => ?_))
  | exact QaM.mono _ _
  | exact LeO.none _
  | refine LeO.ite ?_ ?_
  | refine LeO.bind ?_ (fun _ => ?_)
set_option maxHeartbeats 8000000 in
set_option maxRecDepth 100000 in
theorem QaT.calls (k : Nat) (A0_0 : Option Addr) (c0_0 : Nat) (l0_0 : List (Qa0)) (r : List (Qai)) (w : World) (hr0_0 : Kd.C QbG w A0_0 l0_0.length l0_0) (hc0_0 : l0_0.length ≤ c0_0) (h : QaT.f k l0_0 = some r) :
 Calls Try.prog 28 #[.agg #[.slice A0_0 l0_0.length c0_0]] w fun e w' => ∃ v0_ : Value, e = .returned (.agg #[v0_]) ∧ Kd.S QaI 34 w' w.heap.size (fun _ => True) v0_ r ∧ Below w.heap.size w w' := by
 have hu41 := Try.underlying41
 have hu25 := Try.underlying25
 have HR0_0 := Aside0.mk hr0_0
 have HC0_0 := Aside0.mk hc0_0
 clear hr0_0 hc0_0
 have HB := Aside0.mk (Below.refl w.heap.size w)
 have H : ((QaM.f k l0_0).bind fun t104 => (some t104)) = some r := h
 clear h
 replace H := Option.bind_eq_some_iff.mp H
 obtain ⟨t104, A20, H⟩ := H
 replace H : (some t104) = some r := H
 have A2 := Aside0.mk A20
 clear A20
 obtain rfl := Option.some.inj H
 go_enter Try.func28, Try.ntmps28
 go_wp2_with (first | ((with_reducible refine Qaq (N := 1) rfl ?_); refine Qam ?hg (N := 1) ?hd (cs := #[.slice A0_0 l0_0.length c0_0]) (t := 41) ?hr ?_; (case hd => rfl); (case hg => rfl); (case hr => first | (go_simp; done) | (go_simp; rfl)); intro gb101 hg w3 hbox hb; have n0_ := Aside0.mk (Qac (bw_) hb); have n1_ := Aside0.mk (hbox); have n2_ := Aside0.mk ((gs_ hg bw_ : w.heap.size ≤ gb101)); have n3_ := Aside0.mk ((gs_ hg bw_ : w.heap.size ≤ gb101)); clear HB; have HB := n0_; have BK101 := n1_; have GW101 := n2_; have GE101 := n3_; clear n0_ n1_ n2_ n3_; clear hb hbox hg) | ((with_reducible refine Qaq (N := 2) rfl ?_); refine Qam ?hg (N := 2) ?hd (cs := #[.slice none 0 0]) (t := 25) ?hr ?_; (case hd => rfl); (case hg => rfl); (case hr => first | (go_simp; done) | (go_simp; rfl)); intro gb102 hg w4 hbox hb; have n0_ := Aside0.mk (bb_ BK101 hb); have n1_ := Aside0.mk (Qac (bw_) hb); have n2_ := Aside0.mk (hbox); have n3_ := Aside0.mk ((gs_ hg bw_ : w.heap.size ≤ gb102)); have n4_ := Aside0.mk ((gs_ hg bw_ : w.heap.size ≤ gb102)); have n5_ := Aside0.mk ((nl_ hg BK101 : gb101 ≠ gb102)); have n6_ := Aside0.mk ((ng_ hg BK101 : gb102 ≠ gb101)); clear BK101; clear HB; have BK101 := n0_; have HB := n1_; have BK102 := n2_; have GW102 := n3_; have GE102 := n4_; have NB101_102 := n5_; have NB102_101 := n6_; clear n0_ n1_ n2_ n3_ n4_ n5_ n6_; clear hb hbox hg) | ((with_reducible refine Qaq (N := 3) rfl ?_); refine Qam ?hg (N := 3) ?hd (cs := #[.slice none 0 0]) (t := 25) ?hr ?_; (case hd => rfl); (case hg => rfl); (case hr => first | (go_simp; done) | (go_simp; rfl)); intro gb103 hg w5 hbox hb; have n0_ := Aside0.mk (bb_ BK101 hb); have n1_ := Aside0.mk (bb_ BK102 hb); have n2_ := Aside0.mk (Qac (bw_) hb); have n3_ := Aside0.mk (hbox); have n4_ := Aside0.mk ((gs_ hg bw_ : w.heap.size ≤ gb103)); have n5_ := Aside0.mk ((gs_ hg bw_ : w.heap.size ≤ gb103)); have n6_ := Aside0.mk ((nl_ hg BK101 : gb101 ≠ gb103)); have n7_ := Aside0.mk ((ng_ hg BK101 : gb103 ≠ gb101)); have n8_ := Aside0.mk ((nl_ hg BK102 : gb102 ≠ gb103)); have n9_ := Aside0.mk ((ng_ hg BK102 : gb103 ≠ gb102)); clear BK101; clear BK102; clear HB; have BK101 := n0_; have BK102 := n1_; have HB := n2_; have BK103 := n3_; have GW103 := n4_; have GE103 := n5_; have NB101_103 := n6_; have NB103_101 := n7_; have NB102_103 := n8_; have NB103_102 := n9_; clear n0_ n1_ n2_ n3_ n4_ n5_ n6_ n7_ n8_ n9_; clear hb hbox hg; have hnb6 := NB101_102.out; have hnc6 := NB102_101.out; have hnb7 := NB101_103.out; have hnc7 := NB103_101.out; obtain ⟨hcz8_0, hfz8_0⟩ := QbM BK101.out) | ((with_reducible refine Qal (f := 70) rfl ?_); refine QaU (some 6) rfl rfl Try.func70 (by kernel_rfl) rfl #[.slice A0_0 l0_0.length c0_0] rfl (by (try simp only [List.map_toArray, List.map_cons, List.map_nil]); first | done | rfl | (simp only [List.length_drop, List.length_take]; rfl)) ?_; (with_reducible refine (QaM.calls k _ _ l0_0 t104 _ ?side1 ?side2 A2.out).mono ?_); (case side1 => exact cb_); (case side2 => exact HC0_0.out); rintro e w9 ⟨v105, rfl, ho0, hb⟩; refine ⟨_, rfl, ?_⟩; have n0_ := Aside0.mk (Kd.S_lower ho0 (QaE (bw_))); have n1_ := Aside0.mk (bb_ BK101 hb); have n2_ := Aside0.mk (bb_ BK102 hb); have n3_ := Aside0.mk (bb_ BK103 hb); have n4_ := Aside0.mk (Qac (bw_) hb); clear BK101; clear BK102; clear BK103; clear HB; have HO106 := n0_; have BK101 := n1_; have BK102 := n2_; have BK103 := n3_; have HB := n4_; clear n0_ n1_ n2_ n3_ n4_; (try clear hb); (try clear hb2); (try clear hk); (try clear hi); (try clear ho0); obtain ⟨Ao10, co10, eo10⟩ := Kd.S_slice HO106.out; subst eo10; have hnb11 := NB103_102.out; have hnc11 := NB102_103.out; obtain ⟨hcz12_0, hfz12_0⟩ := QbM BK103.out; obtain ⟨hcz13_0, hfz13_0⟩ := QbM BK102.out))
 refine bodyPost_ret (results_cell_row rfl _ _ gb102 25 #[.slice Ao10 t104.length co10] (0, 0) _ rfl (by (refine kb_ ?_); refine Qa1 (cs := #[.slice none 0 0]) ?_ 0 _ rfl; (refine kb_ ?_); refine Qar ?_ NB102_103.out _; (refine kb_ ?_); exact BK102.out) Try.underlying25 rfl (by kernel_rfl)) rfl ?_
 exact ⟨_, by first | rfl | (simp [Qaf, Qag] <;> rfl) | (simp [*, Qaf, Qag] <;> rfl), by (refine Qbo ?_); exact Kd.S_mono (Kd.S_far (p := ⟨gb102, 0, none⟩) (Kd.S_far (p := ⟨gb103, 0, none⟩) (Kd.S_types (Kd.S_types HO106.out BK103.out (by decide)) BK102.out (by decide)) (fun _ hk => hk.1.2) (.slice Ao10 t104.length co10)) (fun _ hk => hk.2) (.slice Ao10 t104.length co10)) (fun _ hk => trivial), bw_⟩
end Go.Proofs.Ytabcijheemjplaa.G
namespace Go.Proofs.Ytabcijheemjplaa.G
open Go.RowKit Go.Proofs.YtabcijheemjplaaW.PrintWords Go.Proofs.YtabcijheemjplaaW.PrintLast Go.Proofs.YtabcijheemjplaaW.PrintMore
attribute [local go_sem] Qa3 Qa4 Qbc Qbd QaP QaQ Qa5 Qa6
set_option linter.unusedVariables false
set_option linter.unusedSimpArgs false
def Qav.f (a0 : Int) (a1 : Int) (a2 : Int) : Option (Bool) := if a0 ≥ a1 then (some (decide (a0 ≤ a2))) else (some false)
set_option maxHeartbeats 8000000 in
set_option maxRecDepth 100000 in
theorem Qav.calls (a0 : Int) (a1 : Int) (a2 : Int) (r : Bool) (w : World) (h : Qav.f a0 a1 a2 = some r) :
 Calls Try.prog 58 #[.int .i64 a0, .int .i64 a1, .int .i64 a2] w fun e w' => e = .returned (.bool r) ∧ QbU w w' := by
 have H : (if a0 ≥ a1 then (some (decide (a0 ≤ a2))) else (some false)) = some r := h
 clear h
 by_cases c4 : a0 ≥ a1
 · rw [if_pos c4] at H
   have c4b0 : decide (a1 ≤ a0) = true := decide_eq_true c4
   clear c4
   obtain rfl := Option.some.inj H
   go_enter Try.func58, Try.ntmps58
   go_wp2
   go_ret
   exact ⟨by first | rfl | (simp; done) | (simp [*]; done), by repeat (first | exact QbU.refl _ | apply QbU.step)⟩
 · rw [if_neg c4] at H
   have c4b0 : decide (a1 ≤ a0) = false := decide_eq_false c4
   clear c4
   obtain rfl := Option.some.inj H
   go_enter Try.func58, Try.ntmps58
   go_wp2
   go_ret
   exact ⟨by first | rfl | (simp; done) | (simp [*]; done), by repeat (first | exact QbU.refl _ | apply QbU.step)⟩
end Go.Proofs.Ytabcijheemjplaa.G
namespace Go.Proofs.Ytabcijheemjplaa.G
open Go.RowKit Go.Proofs.YtabcijheemjplaaW.PrintWords Go.Proofs.YtabcijheemjplaaW.PrintLast Go.Proofs.YtabcijheemjplaaW.PrintMore
attribute [local go_sem] Qa3 Qa4 Qbc Qbd QaP QaQ Qa5 Qa6
set_option linter.unusedVariables false
set_option linter.unusedSimpArgs false
mutual
def QaJ.j0 : Nat → Int → Bool → List (Qai) → Int → Int → List (QaW) → Int → Int → Option (Bool)
 | 0, _, _, _, _, _, _, _, _ => none
 | k + 1, x8, x14, x102000, x103000, x103001, x103002, x104000, x104001 => if x14 = true then ((Qav.f x104001 0 (wrap64 (x103001 - 1))).bind fun t105 => (some t105)) else (if x8 = 7 then (QaJ.j1 k x8 (x8 == 7) x102000 x103000 x103001 x103002 x104000 x104001) else (QaJ.j1 k x8 (x8 == 8) x102000 x103000 x103001 x103002 x104000 x104001))
def QaJ.j1 : Nat → Int → Bool → List (Qai) → Int → Int → List (QaW) → Int → Int → Option (Bool)
 | 0, _, _, _, _, _, _, _, _ => none
 | k + 1, x8, x23, x102000, x103000, x103001, x103002, x104000, x104001 => if x23 = true then ((Qav.f x104001 0 (wrap64 ((x103002.length : Int) - 1))).bind fun t106 => (some t106)) else (if x8 = 9 then ((Qav.f x104001 0 (wrap64 ((x102000.length : Int) - 1))).bind fun t107 => (some t107)) else (if x8 = 13 then (QaJ.j2 k (x8 == 13) x104000 x104001) else (QaJ.j2 k (x8 == 14) x104000 x104001)))
def QaJ.j2 : Nat → Bool → Int → Int → Option (Bool)
 | 0, _, _, _ => none
 | k + 1, x42, x104000, x104001 => if x42 = true then ((Qav.f x104001 0 3).bind fun t108 => (some t108)) else ((Qav.f x104000 1 18).bind fun t109 => (if t109 = true then (some (x104001 == 0)) else (some false)))
end
def QaJ.f (k : Nat) (l0_0 : List (Qai)) (a1_0 : Int) (a1_1 : Int) (l1_2 : List (QaW)) (a2_0 : Int) (a2_1 : Int) : Option (Bool) := if a2_0 = 1 then ((Qav.f a2_1 0 99).bind fun t104 => (some t104)) else (if a2_0 = 2 then (QaJ.j0 k a2_0 (a2_0 == 2) l0_0 a1_0 a1_1 l1_2 a2_0 a2_1) else (QaJ.j0 k a2_0 (a2_0 == 3) l0_0 a1_0 a1_1 l1_2 a2_0 a2_1))
theorem QaJ.mono_l : ∀ k, (∀ y0 y1 y2 y3 y4 y5 y6 y7, LeO (QaJ.j0 k y0 y1 y2 y3 y4 y5 y6 y7) (QaJ.j0 (k + 1) y0 y1 y2 y3 y4 y5 y6 y7)) ∧ (∀ y0 y1 y2 y3 y4 y5 y6 y7, LeO (QaJ.j1 k y0 y1 y2 y3 y4 y5 y6 y7) (QaJ.j1 (k + 1) y0 y1 y2 y3 y4 y5 y6 y7)) ∧ (∀ y0 y1 y2, LeO (QaJ.j2 k y0 y1 y2) (QaJ.j2 (k + 1) y0 y1 y2))
 | 0 => ⟨fun _ _ _ _ _ _ _ _ r h => by simp [QaJ.j0] at h, fun _ _ _ _ _ _ _ _ r h => by simp [QaJ.j1] at h, fun _ _ _ r h => by simp [QaJ.j2] at h⟩
 | k + 1 => by
   obtain ⟨ih0, ih1, ih2⟩ := QaJ.mono_l k
   refine ⟨?_, ?_, ?_⟩
   · intro y0 y1 y2 y3 y4 y5 y6 y7
     unfold QaJ.j0
     repeat' first
     | (with_reducible exact ih0 _ _ _ _ _ _ _ _)
     | (with_reducible exact ih1 _ _ _ _ _ _ _ _)
     | (with_reducible exact ih2 _ _ _)
     | (with_reducible exact LeO.refl _)
     | (with_reducible exact LeO.none _)
     | (with_reducible refine LeO.ite ?_ ?_)
     | (with_reducible refine LeO.bind ?_ (fun _ => ?_))
     | exact ih0 _ _ _ _ _ _ _ _
     | exact ih1 _ _ _ _ _ _ _ _
     | exact ih2 _ _ _
     | exact LeO.none _
     | refine LeO.ite ?_ ?_
     | refine LeO.bind ?_ (fun _ => ?_)
   · intro y0 y1 y2 y3 y4 y5 y6 y7
     unfold QaJ.j1
     repeat' first
     | (with_reducible exact ih0 _ _ _ _ _ _ _ _)
     | (with_reducible exact ih1 _ _ _ _ _ _ _ _)
     | (with_reducible exact ih2 _ _ _)
     | (with_reducible exact LeO.refl _)
     | (with_reducible exact LeO.none _)
     | (with_reducible refine LeO.ite ?_ ?_)
     | (with_reducible refine LeO.bind ?_ (fun _ => ?_))
     | exact ih0 _ _ _ _ _ _ _ _
     | exact ih1 _ _ _ _ _ _ _ _
     | exact ih2 _ _ _
     | exact LeO.none _
     | refine LeO.ite ?_ ?_
     | refine LeO.bind ?_ (fun _ => ?_)
   · intro y0 y1 y2
     unfold QaJ.j2
     repeat' first
     | (with_reducible exact ih0 _ _ _ _ _ _ _ _)
     | (with_reducible exact ih1 _ _ _ _ _ _ _ _)
     | (with_reducible exact ih2 _ _ _)
     | (with_reducible exact LeO.refl _)
     | (with_reducible exact LeO.none _)
     | (with_reducible refine LeO.ite ?_ ?_)
     | (with_reducible refine LeO.bind ?_ (fun _ => ?_))
     | exact ih0 _ _ _ _ _ _ _ _
     | exact ih1 _ _ _ _ _ _ _ _
     | exact ih2 _ _ _
     | exact LeO.none _
     | refine LeO.ite ?_ ?_
     | refine LeO.bind ?_ (fun _ => ?_)
theorem QaJ.mono : ∀ a0 a1 a2 a3 a4 a5 k, LeO (QaJ.f k a0 a1 a2 a3 a4 a5) (QaJ.f (k + 1) a0 a1 a2 a3 a4 a5) := by
 intro a0 a1 a2 a3 a4 a5 k
 obtain ⟨ih0, ih1, ih2⟩ := QaJ.mono_l k
 unfold QaJ.f
 repeat' first
  | (with_reducible exact ih0 _ _ _ _ _ _ _ _)
  | (with_reducible exact ih1 _ _ _ _ _ _ _ _)
  | (with_reducible exact ih2 _ _ _)
  | (with_reducible exact LeO.refl _)
  | (with_reducible exact LeO.none _)
  | (with_reducible refine LeO.ite ?_ ?_)
  | (with_reducible refine LeO.bind ?_ (fun _ => ?_))
  | exact ih0 _ _ _ _ _ _ _ _
  | exact ih1 _ _ _ _ _ _ _ _
  | exact ih2 _ _ _
  | exact LeO.none _
  | refine LeO.ite ?_ ?_
  | refine LeO.bind ?_ (fun _ => ?_)
set_option maxHeartbeats 8000000 in
set_option maxRecDepth 100000 in
theorem QaJ.calls (k : Nat) (A0_0 : Option Addr) (c0_0 : Nat) (l0_0 : List (Qai)) (a1_0 : Int) (a1_1 : Int) (A1_2 : Option Addr) (c1_2 : Nat) (l1_2 : List (QaW)) (a2_0 : Int) (a2_1 : Int) (r : Bool) (w : World) (hr0_0 : Kd.C QaI w A0_0 l0_0.length l0_0) (hc0_0 : l0_0.length ≤ c0_0) (hr1_2 : Kd.C Qbk w A1_2 l1_2.length l1_2) (hc1_2 : l1_2.length ≤ c1_2) (h : QaJ.f k l0_0 a1_0 a1_1 l1_2 a2_0 a2_1 = some r) :
 Calls Try.prog 129 #[.agg #[.slice A0_0 l0_0.length c0_0], .agg #[.int .i64 a1_0, .int .i64 a1_1, .slice A1_2 l1_2.length c1_2], .agg #[.int .i64 a2_0, .int .i64 a2_1]] w fun e w' => e = .returned (.bool r) ∧ Below w.heap.size w w' := by
 have hu25 := Try.underlying25
 have hu34 := Try.underlying34
 have hu83 := Try.underlying83
 have HR0_0 := Aside0.mk hr0_0
 have HC0_0 := Aside0.mk hc0_0
 clear hr0_0 hc0_0
 have HR1_2 := Aside0.mk hr1_2
 have HC1_2 := Aside0.mk hc1_2
 clear hr1_2 hc1_2
 have HB := Aside0.mk (Below.refl w.heap.size w)
 have H : (if a2_0 = 1 then ((Qav.f a2_1 0 99).bind fun t104 => (some t104)) else (if a2_0 = 2 then (QaJ.j0 k a2_0 (a2_0 == 2) l0_0 a1_0 a1_1 l1_2 a2_0 a2_1) else (QaJ.j0 k a2_0 (a2_0 == 3) l0_0 a1_0 a1_1 l1_2 a2_0 a2_1))) = some r := h
 clear h
 by_cases c4 : a2_0 = 1
 · rw [if_pos c4] at H
   have c4b0 : (a2_0 == 1) = true := beq_iff_eq.mpr c4
   have c4b1 : (a2_0 != 1) = false := bne_eq_false_iff_eq.mpr c4
   clear c4
   replace H := Option.bind_eq_some_iff.mp H
   obtain ⟨t104, A50, H⟩ := H
   replace H : (some t104) = some r := H
   have A5 := Aside0.mk A50
   clear A50
   obtain rfl := Option.some.inj H
   go_enter Try.func129, Try.ntmps129
   go_wp2_with (first | ((with_reducible refine Qaq (N := 3) rfl ?_); refine Qam ?hg (N := 3) ?hd (cs := #[.slice A0_0 l0_0.length c0_0]) (t := 25) ?hr ?_; (case hd => rfl); (case hg => rfl); (case hr => first | (go_simp; done) | (go_simp; rfl)); intro gb101 hg w6 hbox hb; have n0_ := Aside0.mk (Qac (bw_) hb); have n1_ := Aside0.mk (hbox); have n2_ := Aside0.mk ((gs_ hg bw_ : w.heap.size ≤ gb101)); have n3_ := Aside0.mk ((gs_ hg bw_ : w.heap.size ≤ gb101)); clear HB; have HB := n0_; have BK101 := n1_; have GW101 := n2_; have GE101 := n3_; clear n0_ n1_ n2_ n3_; clear hb hbox hg) | ((with_reducible refine Qaq (N := 4) rfl ?_); refine Qam ?hg (N := 4) ?hd (cs := #[.int .i64 a1_0, .int .i64 a1_1, .slice A1_2 l1_2.length c1_2]) (t := 34) ?hr ?_; (case hd => rfl); (case hg => rfl); (case hr => first | (go_simp; done) | (go_simp; rfl)); intro gb102 hg w7 hbox hb; have n0_ := Aside0.mk (bb_ BK101 hb); have n1_ := Aside0.mk (Qac (bw_) hb); have n2_ := Aside0.mk (hbox); have n3_ := Aside0.mk ((gs_ hg bw_ : w.heap.size ≤ gb102)); have n4_ := Aside0.mk ((gs_ hg bw_ : w.heap.size ≤ gb102)); have n5_ := Aside0.mk ((nl_ hg BK101 : gb101 ≠ gb102)); have n6_ := Aside0.mk ((ng_ hg BK101 : gb102 ≠ gb101)); clear BK101; clear HB; have BK101 := n0_; have HB := n1_; have BK102 := n2_; have GW102 := n3_; have GE102 := n4_; have NB101_102 := n5_; have NB102_101 := n6_; clear n0_ n1_ n2_ n3_ n4_ n5_ n6_; clear hb hbox hg) | ((with_reducible refine Qaq (N := 5) rfl ?_); refine Qam ?hg (N := 5) ?hd (cs := #[.int .i64 a2_0, .int .i64 a2_1]) (t := 83) ?hr ?_; (case hd => rfl); (case hg => rfl); (case hr => first | (go_simp; done) | (go_simp; rfl)); intro gb103 hg w8 hbox hb; have n0_ := Aside0.mk (bb_ BK101 hb); have n1_ := Aside0.mk (bb_ BK102 hb); have n2_ := Aside0.mk (Qac (bw_) hb); have n3_ := Aside0.mk (hbox); have n4_ := Aside0.mk ((gs_ hg bw_ : w.heap.size ≤ gb103)); have n5_ := Aside0.mk ((gs_ hg bw_ : w.heap.size ≤ gb103)); have n6_ := Aside0.mk ((nl_ hg BK101 : gb101 ≠ gb103)); have n7_ := Aside0.mk ((ng_ hg BK101 : gb103 ≠ gb101)); have n8_ := Aside0.mk ((nl_ hg BK102 : gb102 ≠ gb103)); have n9_ := Aside0.mk ((ng_ hg BK102 : gb103 ≠ gb102)); clear BK101; clear BK102; clear HB; have BK101 := n0_; have BK102 := n1_; have HB := n2_; have BK103 := n3_; have GW103 := n4_; have GE103 := n5_; have NB101_103 := n6_; have NB103_101 := n7_; have NB102_103 := n8_; have NB103_102 := n9_; clear n0_ n1_ n2_ n3_ n4_ n5_ n6_ n7_ n8_ n9_; clear hb hbox hg; have hnb9 := NB103_101.out; have hnc9 := NB101_103.out; have hnb10 := NB103_102.out; have hnc10 := NB102_103.out; obtain ⟨hcz11_0, hcz11_1, hfz11_0, hfz11_1⟩ := QbN BK103.out) | ((with_reducible refine Qal (f := 58) rfl ?_); refine QaU (some 13) rfl rfl Try.func58 (by kernel_rfl) rfl #[.int .i64 a2_1, .int .i64 0, .int .i64 99] rfl (by (try simp only [List.map_toArray, List.map_cons, List.map_nil]); first | done | rfl | (simp only [List.length_drop, List.length_take]; rfl)) ?_; (with_reducible refine (Qav.calls a2_1 0 99 t104 _ A5.out).mono ?_); rintro e w' ⟨rfl, ⟨nd, rfl⟩⟩; refine ⟨_, rfl, ?_⟩))
   go_ret
   exact ⟨by first | rfl | (simp [Qaf, Qag] <;> rfl) | (simp [*, Qaf, Qag] <;> rfl), bw_⟩
 · rw [if_neg c4] at H
   have c4b0 : (a2_0 == 1) = false := beq_eq_false_iff_ne.mpr c4
   have c4b1 : (a2_0 != 1) = true := bne_iff_ne.mpr c4
   have HC12 := Aside0.mk H
   clear H
   go_enter Try.func129, Try.ntmps129
   go_upto_if 14 with (first | ((with_reducible refine Qaq (N := 3) rfl ?_); refine Qam ?hg (N := 3) ?hd (cs := #[.slice A0_0 l0_0.length c0_0]) (t := 25) ?hr ?_; (case hd => rfl); (case hg => rfl); (case hr => first | (go_simp; done) | (go_simp; rfl)); intro gb101 hg w13 hbox hb; have n0_ := Aside0.mk (Qac (bw_) hb); have n1_ := Aside0.mk (hbox); have n2_ := Aside0.mk ((gs_ hg bw_ : w.heap.size ≤ gb101)); have n3_ := Aside0.mk ((gs_ hg bw_ : w.heap.size ≤ gb101)); clear HB; have HB := n0_; have BK101 := n1_; have GW101 := n2_; have GE101 := n3_; clear n0_ n1_ n2_ n3_; clear hb hbox hg) | ((with_reducible refine Qaq (N := 4) rfl ?_); refine Qam ?hg (N := 4) ?hd (cs := #[.int .i64 a1_0, .int .i64 a1_1, .slice A1_2 l1_2.length c1_2]) (t := 34) ?hr ?_; (case hd => rfl); (case hg => rfl); (case hr => first | (go_simp; done) | (go_simp; rfl)); intro gb102 hg w14 hbox hb; have n0_ := Aside0.mk (bb_ BK101 hb); have n1_ := Aside0.mk (Qac (bw_) hb); have n2_ := Aside0.mk (hbox); have n3_ := Aside0.mk ((gs_ hg bw_ : w.heap.size ≤ gb102)); have n4_ := Aside0.mk ((gs_ hg bw_ : w.heap.size ≤ gb102)); have n5_ := Aside0.mk ((nl_ hg BK101 : gb101 ≠ gb102)); have n6_ := Aside0.mk ((ng_ hg BK101 : gb102 ≠ gb101)); clear BK101; clear HB; have BK101 := n0_; have HB := n1_; have BK102 := n2_; have GW102 := n3_; have GE102 := n4_; have NB101_102 := n5_; have NB102_101 := n6_; clear n0_ n1_ n2_ n3_ n4_ n5_ n6_; clear hb hbox hg) | ((with_reducible refine Qaq (N := 5) rfl ?_); refine Qam ?hg (N := 5) ?hd (cs := #[.int .i64 a2_0, .int .i64 a2_1]) (t := 83) ?hr ?_; (case hd => rfl); (case hg => rfl); (case hr => first | (go_simp; done) | (go_simp; rfl)); intro gb103 hg w15 hbox hb; have n0_ := Aside0.mk (bb_ BK101 hb); have n1_ := Aside0.mk (bb_ BK102 hb); have n2_ := Aside0.mk (Qac (bw_) hb); have n3_ := Aside0.mk (hbox); have n4_ := Aside0.mk ((gs_ hg bw_ : w.heap.size ≤ gb103)); have n5_ := Aside0.mk ((gs_ hg bw_ : w.heap.size ≤ gb103)); have n6_ := Aside0.mk ((nl_ hg BK101 : gb101 ≠ gb103)); have n7_ := Aside0.mk ((ng_ hg BK101 : gb103 ≠ gb101)); have n8_ := Aside0.mk ((nl_ hg BK102 : gb102 ≠ gb103)); have n9_ := Aside0.mk ((ng_ hg BK102 : gb103 ≠ gb102)); clear BK101; clear BK102; clear HB; have BK101 := n0_; have BK102 := n1_; have HB := n2_; have BK103 := n3_; have GW103 := n4_; have GE103 := n5_; have NB101_103 := n6_; have NB103_101 := n7_; have NB102_103 := n8_; have NB103_102 := n9_; clear n0_ n1_ n2_ n3_ n4_ n5_ n6_ n7_ n8_ n9_; clear hb hbox hg; have hnb16 := NB103_101.out; have hnc16 := NB101_103.out; have hnb17 := NB103_102.out; have hnc17 := NB102_103.out; obtain ⟨hcz18_0, hcz18_1, hfz18_0, hfz18_1⟩ := QbN BK103.out))
   (try simp only [Act.put, List.setIfInBounds_toArray, List.set_cons_zero, List.set_cons_succ])
   go_cut [14] (fun v14 wc => ∃ (kq : Nat) (x14_11 : Bool), v14 = .bool x14_11 ∧ Aside0 (QaJ.j0 kq a2_0 x14_11 l0_0 a1_0 a1_1 l1_2 a2_0 a2_1 = some r) ∧ Aside0 (kq ≤ k) ∧ Aside0 (wc.heap[gb101]? = some (.cells #[(.slice A0_0 l0_0.length c0_0)] 25 (0, 0))) ∧ Aside0 (wc.heap[gb102]? = some (.cells #[.int .i64 a1_0, .int .i64 a1_1, (.slice A1_2 l1_2.length c1_2)] 34 (0, 0))) ∧ Aside0 (wc.heap[gb103]? = some (.cells #[.int .i64 a2_0, .int .i64 a2_1] 83 (0, 0))) ∧ Aside0 (Below w.heap.size w wc))
   case first =>
    have H := HC12.out
    clear HC12
    by_cases c19 : a2_0 = 2
    · rw [if_pos c19] at H
      have c19b0 : (a2_0 == 2) = true := beq_iff_eq.mpr c19
      have c19b1 : (a2_0 != 2) = false := bne_eq_false_iff_eq.mpr c19
      clear c19
      (first | rw [c19b0] | (simp only [QbA, QbB]; rw [c19b0]) | skip)
      have H' := Aside0.mk H
      clear H
      go_wp2
      go_meet
      case rel => exact ⟨_, ((a2_0 == 2)), (by first | rfl | (simp; done) | (simp [*]; done)), H', ⟨by first | omega | exact Nat.le_refl _⟩, ⟨by (refine kb_ ?_); exact BK101.out⟩, ⟨by (refine kb_ ?_); exact BK102.out⟩, ⟨by (refine kb_ ?_); exact BK103.out⟩, ⟨bw_⟩⟩
    · rw [if_neg c19] at H
      have c19b0 : (a2_0 == 2) = false := beq_eq_false_iff_ne.mpr c19
      have c19b1 : (a2_0 != 2) = true := bne_iff_ne.mpr c19
      (first | rw [c19b0] | (simp only [QbA, QbB]; rw [c19b0]) | skip)
      have H' := Aside0.mk H
      clear H
      go_wp2
      go_meet
      case rel => exact ⟨_, ((a2_0 == 3)), (by first | rfl | (simp; done) | (simp [*]; done)), H', ⟨by first | omega | exact Nat.le_refl _⟩, ⟨by (refine kb_ ?_); exact BK101.out⟩, ⟨by (refine kb_ ?_); exact BK102.out⟩, ⟨by (refine kb_ ?_); exact BK103.out⟩, ⟨bw_⟩⟩
   case rest =>
    clear HC12
    try clear c1
    try clear p2
    try clear c4
    try clear c4b0
    try clear c4b1
    try clear c5
    try clear c9
    try clear c10
    try clear c12
    try clear c16
    try clear c17
    try clear c19
    try clear c19b0
    try clear c19b1
    try clear hcz11_0
    try clear hcz11_1
    try clear hcz18_0
    try clear hcz18_1
    try clear hfz11_0
    try clear hfz11_1
    try clear hfz18_0
    try clear hfz18_1
    obtain ⟨kq, x14_11, rfl, HA, HJ11, BK101, BK102, BK103, HB⟩ := hcut
    cases kq with
    | zero => exact absurd HA.out (by simp [QaJ.j0])
    | succ kj11 =>
      have H := HA.out
      clear HA
      simp only [QaJ.j0] at H
      by_cases c20 : x14_11 = true
      · subst c20
        have H1 : ((Qav.f a2_1 0 (wrap64 (a1_1 - 1))).bind fun t105 => (some t105)) = some r := by rw [if_pos rfl] at H; exact H
        clear H
        have H := H1
        clear H1
        replace H := Option.bind_eq_some_iff.mp H
        obtain ⟨t105, A210, H⟩ := H
        replace H : (some t105) = some r := H
        have A21 := Aside0.mk A210
        clear A210
        obtain rfl := Option.some.inj H
        have hnb22 := NB103_101.out
        have hnc22 := NB101_103.out
        have hnb23 := NB103_102.out
        have hnc23 := NB102_103.out
        have hcz24_0 : wc.cell? ⟨gb103, 0, none⟩ = some (.int .i64 a2_0) := (Qab BK103.out 0).trans rfl
        have hcz24_1 : wc.cell? ⟨gb103, 1, none⟩ = some (.int .i64 a2_1) := (Qab BK103.out 1).trans rfl
        have hfz24_0 := Qad BK103.out 0
        have hfz24_1 := Qad BK103.out 1
        have hnb25 := NB102_101.out
        have hnc25 := NB101_102.out
        have hcz26_0 : wc.cell? ⟨gb102, 0, none⟩ = some (.int .i64 a1_0) := (Qab BK102.out 0).trans rfl
        have hcz26_1 : wc.cell? ⟨gb102, 1, none⟩ = some (.int .i64 a1_1) := (Qab BK102.out 1).trans rfl
        have hcz26_2 : wc.cell? ⟨gb102, 2, none⟩ = some (.slice A1_2 l1_2.length c1_2) := (Qab BK102.out 2).trans rfl
        have hfz26_0 := Qad BK102.out 0
        have hfz26_1 := Qad BK102.out 1
        have hfz26_2 := Qad BK102.out 2
        go_wp2_with (first | ((with_reducible refine Qal (f := 58) rfl ?_); refine QaU (some 22) rfl rfl Try.func58 (by kernel_rfl) rfl #[.int .i64 a2_1, .int .i64 0, .int .i64 (wrap64 (a1_1 - 1))] rfl (by (try simp only [List.map_toArray, List.map_cons, List.map_nil]); first | done | rfl | (simp only [List.length_drop, List.length_take]; rfl)) ?_; (with_reducible refine (Qav.calls a2_1 0 (wrap64 (a1_1 - 1)) t105 _ A21.out).mono ?_); rintro e w' ⟨rfl, ⟨nd, rfl⟩⟩; refine ⟨_, rfl, ?_⟩))
        go_ret
        exact ⟨by first | rfl | (simp [Qaf, Qag] <;> rfl) | (simp [*, Qaf, Qag] <;> rfl), bw_⟩
      · replace c20 := Bool.eq_false_iff.mpr c20
        subst c20
        have H1 : (if a2_0 = 7 then (QaJ.j1 kj11 a2_0 (a2_0 == 7) l0_0 a1_0 a1_1 l1_2 a2_0 a2_1) else (QaJ.j1 kj11 a2_0 (a2_0 == 8) l0_0 a1_0 a1_1 l1_2 a2_0 a2_1)) = some r := by rw [if_neg (show ¬ (false = true) by decide)] at H; exact H
        clear H
        have H := H1
        clear H1
        have HC27 := Aside0.mk H
        clear H
        go_upto_if 23 with (fail)
        go_cut [23] (fun v23 wc => ∃ (kq : Nat) (x23_26 : Bool), v23 = .bool x23_26 ∧ Aside0 (QaJ.j1 kq a2_0 x23_26 l0_0 a1_0 a1_1 l1_2 a2_0 a2_1 = some r) ∧ Aside0 (kq ≤ kj11) ∧ Aside0 (wc.heap[gb101]? = some (.cells #[(.slice A0_0 l0_0.length c0_0)] 25 (0, 0))) ∧ Aside0 (wc.heap[gb102]? = some (.cells #[.int .i64 a1_0, .int .i64 a1_1, (.slice A1_2 l1_2.length c1_2)] 34 (0, 0))) ∧ Aside0 (wc.heap[gb103]? = some (.cells #[.int .i64 a2_0, .int .i64 a2_1] 83 (0, 0))) ∧ Aside0 (Below w.heap.size w wc))
        case first =>
         have H := HC27.out
         clear HC27
         by_cases c28 : a2_0 = 7
         · rw [if_pos c28] at H
           have c28b0 : (a2_0 == 7) = true := beq_iff_eq.mpr c28
           have c28b1 : (a2_0 != 7) = false := bne_eq_false_iff_eq.mpr c28
           clear c28
           (first | rw [c28b0] | (simp only [QbA, QbB]; rw [c28b0]) | skip)
           have H' := Aside0.mk H
           clear H
           go_wp2
           go_meet
           case rel => exact ⟨_, ((a2_0 == 7)), (by first | rfl | (simp; done) | (simp [*]; done)), H', ⟨by have := HJ11.out; first | omega | exact Nat.le_refl _⟩, ⟨by (refine kb_ ?_); exact BK101.out⟩, ⟨by (refine kb_ ?_); exact BK102.out⟩, ⟨by (refine kb_ ?_); exact BK103.out⟩, ⟨bw_⟩⟩
         · rw [if_neg c28] at H
           have c28b0 : (a2_0 == 7) = false := beq_eq_false_iff_ne.mpr c28
           have c28b1 : (a2_0 != 7) = true := bne_iff_ne.mpr c28
           (first | rw [c28b0] | (simp only [QbA, QbB]; rw [c28b0]) | skip)
           have H' := Aside0.mk H
           clear H
           go_wp2
           go_meet
           case rel => exact ⟨_, ((a2_0 == 8)), (by first | rfl | (simp; done) | (simp [*]; done)), H', ⟨by have := HJ11.out; first | omega | exact Nat.le_refl _⟩, ⟨by (refine kb_ ?_); exact BK101.out⟩, ⟨by (refine kb_ ?_); exact BK102.out⟩, ⟨by (refine kb_ ?_); exact BK103.out⟩, ⟨bw_⟩⟩
        case rest =>
         clear HC27
         try clear c1
         try clear c2
         try clear p2
         try clear c4
         try clear c4b0
         try clear c4b1
         try clear c5
         try clear p6
         try clear c9
         try clear c10
         try clear c12
         try clear c16
         try clear c17
         try clear c19
         try clear c19b0
         try clear c19b1
         try clear c20
         try clear c22
         try clear c23
         try clear c25
         try clear c28
         try clear c28b0
         try clear c28b1
         try clear hcz11_0
         try clear hcz11_1
         try clear hcz18_0
         try clear hcz18_1
         try clear hcz24_0
         try clear hcz24_1
         try clear hcz26_0
         try clear hcz26_1
         try clear hcz26_2
         try clear hfz11_0
         try clear hfz11_1
         try clear hfz18_0
         try clear hfz18_1
         try clear hfz24_0
         try clear hfz24_1
         try clear hfz26_0
         try clear hfz26_1
         try clear hfz26_2
         try clear p2
         obtain ⟨kq, x23_26, rfl, HA, HJ26, BK101, BK102, BK103, HB⟩ := hcut
         cases kq with
         | zero => exact absurd HA.out (by simp [QaJ.j1])
         | succ kj26 =>
           have H := HA.out
           clear HA
           simp only [QaJ.j1] at H
           by_cases c29 : x23_26 = true
           · subst c29
             have H1 : ((Qav.f a2_1 0 (wrap64 ((l1_2.length : Int) - 1))).bind fun t106 => (some t106)) = some r := by rw [if_pos rfl] at H; exact H
             clear H
             have H := H1
             clear H1
             replace H := Option.bind_eq_some_iff.mp H
             obtain ⟨t106, A300, H⟩ := H
             replace H : (some t106) = some r := H
             have A30 := Aside0.mk A300
             clear A300
             obtain rfl := Option.some.inj H
             have hnb31 := NB103_101.out
             have hnc31 := NB101_103.out
             have hnb32 := NB103_102.out
             have hnc32 := NB102_103.out
             have hcz33_0 : wc.cell? ⟨gb103, 0, none⟩ = some (.int .i64 a2_0) := (Qab BK103.out 0).trans rfl
             have hcz33_1 : wc.cell? ⟨gb103, 1, none⟩ = some (.int .i64 a2_1) := (Qab BK103.out 1).trans rfl
             have hfz33_0 := Qad BK103.out 0
             have hfz33_1 := Qad BK103.out 1
             have hnb34 := NB102_101.out
             have hnc34 := NB101_102.out
             have hcz35_0 : wc.cell? ⟨gb102, 0, none⟩ = some (.int .i64 a1_0) := (Qab BK102.out 0).trans rfl
             have hcz35_1 : wc.cell? ⟨gb102, 1, none⟩ = some (.int .i64 a1_1) := (Qab BK102.out 1).trans rfl
             have hcz35_2 : wc.cell? ⟨gb102, 2, none⟩ = some (.slice A1_2 l1_2.length c1_2) := (Qab BK102.out 2).trans rfl
             have hfz35_0 := Qad BK102.out 0
             have hfz35_1 := Qad BK102.out 1
             have hfz35_2 := Qad BK102.out 2
             go_wp2_with (first | ((with_reducible refine Qal (f := 58) rfl ?_); refine QaU (some 32) rfl rfl Try.func58 (by kernel_rfl) rfl #[.int .i64 a2_1, .int .i64 0, .int .i64 (wrap64 ((l1_2.length : Int) - 1))] rfl (by (try simp only [List.map_toArray, List.map_cons, List.map_nil]); first | done | rfl | (simp only [List.length_drop, List.length_take]; rfl)) ?_; (with_reducible refine (Qav.calls a2_1 0 (wrap64 ((l1_2.length : Int) - 1)) t106 _ A30.out).mono ?_); rintro e w' ⟨rfl, ⟨nd, rfl⟩⟩; refine ⟨_, rfl, ?_⟩))
             go_ret
             exact ⟨by first | rfl | (simp [Qaf, Qag] <;> rfl) | (simp [*, Qaf, Qag] <;> rfl), bw_⟩
           · replace c29 := Bool.eq_false_iff.mpr c29
             subst c29
             have H1 : (if a2_0 = 9 then ((Qav.f a2_1 0 (wrap64 ((l0_0.length : Int) - 1))).bind fun t107 => (some t107)) else (if a2_0 = 13 then (QaJ.j2 kj26 (a2_0 == 13) a2_0 a2_1) else (QaJ.j2 kj26 (a2_0 == 14) a2_0 a2_1))) = some r := by rw [if_neg (show ¬ (false = true) by decide)] at H; exact H
             clear H
             have H := H1
             clear H1
             by_cases c36 : a2_0 = 9
             · rw [if_pos c36] at H
               have c36b0 : (a2_0 == 9) = true := beq_iff_eq.mpr c36
               have c36b1 : (a2_0 != 9) = false := bne_eq_false_iff_eq.mpr c36
               clear c36
               replace H := Option.bind_eq_some_iff.mp H
               obtain ⟨t107, A370, H⟩ := H
               replace H : (some t107) = some r := H
               have A37 := Aside0.mk A370
               clear A370
               obtain rfl := Option.some.inj H
               have hnb38 := NB103_101.out
               have hnc38 := NB101_103.out
               have hnb39 := NB103_102.out
               have hnc39 := NB102_103.out
               have hcz40_0 : wc.cell? ⟨gb103, 0, none⟩ = some (.int .i64 a2_0) := (Qab BK103.out 0).trans rfl
               have hcz40_1 : wc.cell? ⟨gb103, 1, none⟩ = some (.int .i64 a2_1) := (Qab BK103.out 1).trans rfl
               have hfz40_0 := Qad BK103.out 0
               have hfz40_1 := Qad BK103.out 1
               have hnb41 := NB101_102.out
               have hnc41 := NB102_101.out
               have hcz42_0 : wc.cell? ⟨gb101, 0, none⟩ = some (.slice A0_0 l0_0.length c0_0) := (Qab BK101.out 0).trans rfl
               have hfz42_0 := Qad BK101.out 0
               go_wp2_with (first | ((with_reducible refine Qal (f := 58) rfl ?_); refine QaU (some 41) rfl rfl Try.func58 (by kernel_rfl) rfl #[.int .i64 a2_1, .int .i64 0, .int .i64 (wrap64 ((l0_0.length : Int) - 1))] rfl (by (try simp only [List.map_toArray, List.map_cons, List.map_nil]); first | done | rfl | (simp only [List.length_drop, List.length_take]; rfl)) ?_; (with_reducible refine (Qav.calls a2_1 0 (wrap64 ((l0_0.length : Int) - 1)) t107 _ A37.out).mono ?_); rintro e w' ⟨rfl, ⟨nd, rfl⟩⟩; refine ⟨_, rfl, ?_⟩))
               go_ret
               exact ⟨by first | rfl | (simp [Qaf, Qag] <;> rfl) | (simp [*, Qaf, Qag] <;> rfl), bw_⟩
             · rw [if_neg c36] at H
               have c36b0 : (a2_0 == 9) = false := beq_eq_false_iff_ne.mpr c36
               have c36b1 : (a2_0 != 9) = true := bne_iff_ne.mpr c36
               have HC43 := Aside0.mk H
               clear H
               go_upto_if 42 with (fail)
               go_cut [42] (fun v42 wc => ∃ (kq : Nat) (x42_42 : Bool), v42 = .bool x42_42 ∧ Aside0 (QaJ.j2 kq x42_42 a2_0 a2_1 = some r) ∧ Aside0 (kq ≤ kj26) ∧ Aside0 (wc.heap[gb101]? = some (.cells #[(.slice A0_0 l0_0.length c0_0)] 25 (0, 0))) ∧ Aside0 (wc.heap[gb102]? = some (.cells #[.int .i64 a1_0, .int .i64 a1_1, (.slice A1_2 l1_2.length c1_2)] 34 (0, 0))) ∧ Aside0 (wc.heap[gb103]? = some (.cells #[.int .i64 a2_0, .int .i64 a2_1] 83 (0, 0))) ∧ Aside0 (Below w.heap.size w wc))
               case first =>
                have H := HC43.out
                clear HC43
                by_cases c44 : a2_0 = 13
                · rw [if_pos c44] at H
                  have c44b0 : (a2_0 == 13) = true := beq_iff_eq.mpr c44
                  have c44b1 : (a2_0 != 13) = false := bne_eq_false_iff_eq.mpr c44
                  clear c44
                  (first | rw [c44b0] | (simp only [QbA, QbB]; rw [c44b0]) | skip)
                  have H' := Aside0.mk H
                  clear H
                  go_wp2
                  go_meet
                  case rel => exact ⟨_, ((a2_0 == 13)), (by first | rfl | (simp; done) | (simp [*]; done)), H', ⟨by have := HJ11.out; have := HJ26.out; first | omega | exact Nat.le_refl _⟩, ⟨by (refine kb_ ?_); exact BK101.out⟩, ⟨by (refine kb_ ?_); exact BK102.out⟩, ⟨by (refine kb_ ?_); exact BK103.out⟩, ⟨bw_⟩⟩
                · rw [if_neg c44] at H
                  have c44b0 : (a2_0 == 13) = false := beq_eq_false_iff_ne.mpr c44
                  have c44b1 : (a2_0 != 13) = true := bne_iff_ne.mpr c44
                  (first | rw [c44b0] | (simp only [QbA, QbB]; rw [c44b0]) | skip)
                  have H' := Aside0.mk H
                  clear H
                  go_wp2
                  go_meet
                  case rel => exact ⟨_, ((a2_0 == 14)), (by first | rfl | (simp; done) | (simp [*]; done)), H', ⟨by have := HJ11.out; have := HJ26.out; first | omega | exact Nat.le_refl _⟩, ⟨by (refine kb_ ?_); exact BK101.out⟩, ⟨by (refine kb_ ?_); exact BK102.out⟩, ⟨by (refine kb_ ?_); exact BK103.out⟩, ⟨bw_⟩⟩
               case rest =>
                clear HC43
                try clear c1
                try clear c2
                try clear p2
                try clear c3
                try clear c4
                try clear c4b0
                try clear c4b1
                try clear c5
                try clear p6
                try clear c9
                try clear c10
                try clear c12
                try clear c16
                try clear c17
                try clear c19
                try clear c19b0
                try clear c19b1
                try clear c20
                try clear c22
                try clear c23
                try clear c25
                try clear c28
                try clear c28b0
                try clear c28b1
                try clear c29
                try clear c31
                try clear c32
                try clear c34
                try clear c36
                try clear c36b0
                try clear c36b1
                try clear c38
                try clear c39
                try clear c41
                try clear c44
                try clear c44b0
                try clear c44b1
                try clear hcz11_0
                try clear hcz11_1
                try clear hcz18_0
                try clear hcz18_1
                try clear hcz24_0
                try clear hcz24_1
                try clear hcz26_0
                try clear hcz26_1
                try clear hcz26_2
                try clear hcz33_0
                try clear hcz33_1
                try clear hcz35_0
                try clear hcz35_1
                try clear hcz35_2
                try clear hcz40_0
                try clear hcz40_1
                try clear hcz42_0
                try clear hfz11_0
                try clear hfz11_1
                try clear hfz18_0
                try clear hfz18_1
                try clear hfz24_0
                try clear hfz24_1
                try clear hfz26_0
                try clear hfz26_1
                try clear hfz26_2
                try clear hfz33_0
                try clear hfz33_1
                try clear hfz35_0
                try clear hfz35_1
                try clear hfz35_2
                try clear hfz40_0
                try clear hfz40_1
                try clear hfz42_0
                try clear p2
                try clear p6
                obtain ⟨kq, x42_42, rfl, HA, HJ42, BK101, BK102, BK103, HB⟩ := hcut
                cases kq with
                | zero => exact absurd HA.out (by simp [QaJ.j2])
                | succ kj42 =>
                  have H := HA.out
                  clear HA
                  simp only [QaJ.j2] at H
                  by_cases c45 : x42_42 = true
                  · subst c45
                    have H1 : ((Qav.f a2_1 0 3).bind fun t108 => (some t108)) = some r := by rw [if_pos rfl] at H; exact H
                    clear H
                    have H := H1
                    clear H1
                    replace H := Option.bind_eq_some_iff.mp H
                    obtain ⟨t108, A460, H⟩ := H
                    replace H : (some t108) = some r := H
                    have A46 := Aside0.mk A460
                    clear A460
                    obtain rfl := Option.some.inj H
                    have hnb47 := NB103_101.out
                    have hnc47 := NB101_103.out
                    have hnb48 := NB103_102.out
                    have hnc48 := NB102_103.out
                    have hcz49_0 : wc.cell? ⟨gb103, 0, none⟩ = some (.int .i64 a2_0) := (Qab BK103.out 0).trans rfl
                    have hcz49_1 : wc.cell? ⟨gb103, 1, none⟩ = some (.int .i64 a2_1) := (Qab BK103.out 1).trans rfl
                    have hfz49_0 := Qad BK103.out 0
                    have hfz49_1 := Qad BK103.out 1
                    go_wp2_with (first | ((with_reducible refine Qal (f := 58) rfl ?_); refine QaU (some 47) rfl rfl Try.func58 (by kernel_rfl) rfl #[.int .i64 a2_1, .int .i64 0, .int .i64 3] rfl (by (try simp only [List.map_toArray, List.map_cons, List.map_nil]); first | done | rfl | (simp only [List.length_drop, List.length_take]; rfl)) ?_; (with_reducible refine (Qav.calls a2_1 0 3 t108 _ A46.out).mono ?_); rintro e w' ⟨rfl, ⟨nd, rfl⟩⟩; refine ⟨_, rfl, ?_⟩))
                    go_ret
                    exact ⟨by first | rfl | (simp [Qaf, Qag] <;> rfl) | (simp [*, Qaf, Qag] <;> rfl), bw_⟩
                  · replace c45 := Bool.eq_false_iff.mpr c45
                    subst c45
                    have H1 : ((Qav.f a2_0 1 18).bind fun t109 => (if t109 = true then (some (a2_1 == 0)) else (some false))) = some r := by rw [if_neg (show ¬ (false = true) by decide)] at H; exact H
                    clear H
                    have H := H1
                    clear H1
                    replace H := Option.bind_eq_some_iff.mp H
                    obtain ⟨t109, A500, H⟩ := H
                    replace H : (if t109 = true then (some (a2_1 == 0)) else (some false)) = some r := H
                    have A50 := Aside0.mk A500
                    clear A500
                    by_cases c51 : t109 = true
                    · subst c51
                      have H1 : (some (a2_1 == 0)) = some r := by rw [if_pos rfl] at H; exact H
                      clear H
                      have H := H1
                      clear H1
                      obtain rfl := Option.some.inj H
                      have hnb52 := NB103_101.out
                      have hnc52 := NB101_103.out
                      have hnb53 := NB103_102.out
                      have hnc53 := NB102_103.out
                      have hcz54_0 : wc.cell? ⟨gb103, 0, none⟩ = some (.int .i64 a2_0) := (Qab BK103.out 0).trans rfl
                      have hcz54_1 : wc.cell? ⟨gb103, 1, none⟩ = some (.int .i64 a2_1) := (Qab BK103.out 1).trans rfl
                      have hfz54_0 := Qad BK103.out 0
                      have hfz54_1 := Qad BK103.out 1
                      go_wp2_with (first | ((with_reducible refine Qal (f := 58) rfl ?_); refine QaU (some 50) rfl rfl Try.func58 (by kernel_rfl) rfl #[.int .i64 a2_0, .int .i64 1, .int .i64 18] rfl (by (try simp only [List.map_toArray, List.map_cons, List.map_nil]); first | done | rfl | (simp only [List.length_drop, List.length_take]; rfl)) ?_; (with_reducible refine (Qav.calls a2_0 1 18 true _ A50.out).mono ?_); rintro e w' ⟨rfl, ⟨nd, rfl⟩⟩; refine ⟨_, rfl, ?_⟩))
                      go_ret
                      exact ⟨by first | rfl | (simp [Qaf, Qag] <;> rfl) | (simp [*, Qaf, Qag] <;> rfl), bw_⟩
                    · replace c51 := Bool.eq_false_iff.mpr c51
                      subst c51
                      have H1 : (some false) = some r := by rw [if_neg (show ¬ (false = true) by decide)] at H; exact H
                      clear H
                      have H := H1
                      clear H1
                      obtain rfl := Option.some.inj H
                      have hnb55 := NB103_101.out
                      have hnc55 := NB101_103.out
                      have hnb56 := NB103_102.out
                      have hnc56 := NB102_103.out
                      have hcz57_0 : wc.cell? ⟨gb103, 0, none⟩ = some (.int .i64 a2_0) := (Qab BK103.out 0).trans rfl
                      have hcz57_1 : wc.cell? ⟨gb103, 1, none⟩ = some (.int .i64 a2_1) := (Qab BK103.out 1).trans rfl
                      have hfz57_0 := Qad BK103.out 0
                      have hfz57_1 := Qad BK103.out 1
                      go_wp2_with (first | ((with_reducible refine Qal (f := 58) rfl ?_); refine QaU (some 50) rfl rfl Try.func58 (by kernel_rfl) rfl #[.int .i64 a2_0, .int .i64 1, .int .i64 18] rfl (by (try simp only [List.map_toArray, List.map_cons, List.map_nil]); first | done | rfl | (simp only [List.length_drop, List.length_take]; rfl)) ?_; (with_reducible refine (Qav.calls a2_0 1 18 false _ A50.out).mono ?_); rintro e w' ⟨rfl, ⟨nd, rfl⟩⟩; refine ⟨_, rfl, ?_⟩))
                      go_ret
                      exact ⟨by first | rfl | (simp [Qaf, Qag] <;> rfl) | (simp [*, Qaf, Qag] <;> rfl), bw_⟩
end Go.Proofs.Ytabcijheemjplaa.G
namespace Go.Proofs.Ytabcijheemjplaa.G
open Go.RowKit Go.Proofs.YtabcijheemjplaaW.PrintWords Go.Proofs.YtabcijheemjplaaW.PrintLast Go.Proofs.YtabcijheemjplaaW.PrintMore
attribute [local go_sem] Qa3 Qa4 Qbc Qbd QaP QaQ Qa5 Qa6
set_option linter.unusedVariables false
set_option linter.unusedSimpArgs false
mutual
def Qap.j0 : Nat → Bool → List (Qai) → Int → Int → List (QaW) → Option (Bool)
 | 0, _, _, _, _, _ => none
 | k + 1, x23, x102000, x103000, x103001, x103002 => if x23 = true then (some false) else (Qap.l0 k 0 x102000 x103000 x103001 x103002)
def Qap.l0 : Nat → Int → List (Qai) → Int → Int → List (QaW) → Option (Bool)
 | 0, _, _, _, _, _ => none
 | k + 1, x5, x102000, x103000, x103001, x103002 => if x5 < (x103002.length : Int) then (if 0 ≤ x5 then ((QaJ.f k x102000 x103000 x103001 x103002 ((QaH x103002 x5).f0) ((QaH x103002 x5).f1)).bind fun t106 => (if t106 = true then (Qap.l0 k (wrap64 (x5 + 1)) x102000 x103000 x103001 x103002) else (some false))) else (none)) else (some true)
end
def Qap.f (k : Nat) (l0_0 : List (Qai)) (a1_0 : Int) (a1_1 : Int) (l1_2 : List (QaW)) : Option (Bool) := (Qav.f a1_0 0 2).bind fun t103 => (if t103 = true then ((Qav.f a1_1 a1_0 4).bind fun t104 => (if t104 = true then (Qap.j0 k (decide ((l1_2.length : Int) > 14)) l0_0 a1_0 a1_1 l1_2) else (Qap.j0 k true l0_0 a1_0 a1_1 l1_2))) else (Qap.j0 k true l0_0 a1_0 a1_1 l1_2))
theorem Qap.mono_l : ∀ k, (∀ y0 y1 y2 y3 y4, LeO (Qap.j0 k y0 y1 y2 y3 y4) (Qap.j0 (k + 1) y0 y1 y2 y3 y4)) ∧ (∀ y0 y1 y2 y3 y4, LeO (Qap.l0 k y0 y1 y2 y3 y4) (Qap.l0 (k + 1) y0 y1 y2 y3 y4))
 | 0 => ⟨fun _ _ _ _ _ r h => by simp [Qap.j0] at h, fun _ _ _ _ _ r h => by simp [Qap.l0] at h⟩
 | k + 1 => by
   obtain ⟨ih0, ih1⟩ := Qap.mono_l k
   refine ⟨?_, ?_⟩
   · intro y0 y1 y2 y3 y4
     unfold Qap.j0
     repeat' first
     | (with_reducible exact ih0 _ _ _ _ _)
     | (with_reducible exact ih1 _ _ _ _ _)
     | (with_reducible exact QaJ.mono _ _ _ _ _ _ _)
     | (with_reducible exact LeO.refl _)
     | (with_reducible exact LeO.none _)
     | (with_reducible refine LeO.ite ?_ ?_)
     | (with_reducible refine LeO.bind ?_ (fun _ => ?_))
     | exact ih0 _ _ _ _ _
     | exact ih1 _ _ _ _ _
     | exact QaJ.mono _ _ _ _ _ _ _
     | exact LeO.none _
     | refine LeO.ite ?_ ?_
     | refine LeO.bind ?_ (fun _ => ?_)
   · intro y0 y1 y2 y3 y4
     unfold Qap.l0
     repeat' first
     | (with_reducible exact ih0 _ _ _ _ _)
     | (with_reducible exact ih1 _ _ _ _ _)
     | (with_reducible exact QaJ.mono _ _ _ _ _ _ _)
     | (with_reducible exact LeO.refl _)
     | (with_reducible exact LeO.none _)
     | (with_reducible refine LeO.ite ?_ ?_)
     | (with_reducible refine LeO.bind ?_ (fun _ => ?_))
     | exact ih0 _ _ _ _ _
     | exact ih1 _ _ _ _ _
     | exact QaJ.mono _ _ _ _ _ _ _
     | exact LeO.none _
     | refine LeO.ite ?_ ?_
     | refine LeO.bind ?_ (fun _ => ?_)
theorem Qap.mono : ∀ a0 a1 a2 a3 k, LeO (Qap.f k a0 a1 a2 a3) (Qap.f (k + 1) a0 a1 a2 a3) := by
 intro a0 a1 a2 a3 k
 obtain ⟨ih0, ih1⟩ := Qap.mono_l k
 unfold Qap.f
 repeat' first
  | (with_reducible exact ih0 _ _ _ _ _)
  | (with_reducible exact ih1 _ _ _ _ _)
  | (with_reducible exact QaJ.mono _ _ _ _ _ _ _)
  | (with_reducible exact LeO.refl _)
  | (with_reducible exact LeO.none _)
  | (with_reducible refine LeO.ite ?_ ?_)
  | (with_reducible refine LeO.bind ?_ (fun _ => ?_))
  | exact ih0 _ _ _ _ _
  | exact ih1 _ _ _ _ _
  | exact QaJ.mono _ _ _ _ _ _ _
  | exact LeO.none _
  | refine LeO.ite ?_ ?_
  | refine LeO.bind ?_ (fun _ => ?_)
def Qap.T6 : Bool × List (List Nat × List Nat) := (true, [([], []), ([], []), ([], []), ([2], [2]), ([], []), ([3, 4], [3, 4]), ([5], [5]), ([0, 1, 6], [0, 1, 6]), ([7], [7])])
def Qap.B6 : List Nat := [0, 0, 0, 4, 0, 28, 60, 127, 255]
theorem Qap.tab6 : rtab .any (opsOf Try.f102 6) = Qap.T6 := by kernel_rfl
theorem Qap.bits6 : Qcj Qap.T6.2 Qap.B6 = true := by kernel_rfl
set_option maxHeartbeats 8000000 in
set_option maxRecDepth 100000 in
theorem Qap.calls (k : Nat) (A0_0 : Option Addr) (c0_0 : Nat) (l0_0 : List (Qai)) (a1_0 : Int) (a1_1 : Int) (A1_2 : Option Addr) (c1_2 : Nat) (l1_2 : List (QaW)) (r : Bool) (w : World) (hr0_0 : Kd.C QaI w A0_0 l0_0.length l0_0) (hc0_0 : l0_0.length ≤ c0_0) (hr1_2 : Kd.C Qbk w A1_2 l1_2.length l1_2) (hc1_2 : l1_2.length ≤ c1_2) (h : Qap.f k l0_0 a1_0 a1_1 l1_2 = some r) :
 Calls Try.prog 102 #[.agg #[.slice A0_0 l0_0.length c0_0], .agg #[.int .i64 a1_0, .int .i64 a1_1, .slice A1_2 l1_2.length c1_2]] w fun e w' => e = .returned (.bool r) ∧ Below w.heap.size w w' := by
 have hu25 := Try.underlying25
 have hu34 := Try.underlying34
 have hu83 := Try.underlying83
 have HR0_0 := Aside0.mk hr0_0
 have HC0_0 := Aside0.mk hc0_0
 clear hr0_0 hc0_0
 have HR1_2 := Aside0.mk hr1_2
 have HC1_2 := Aside0.mk hc1_2
 clear hr1_2 hc1_2
 have HB := Aside0.mk (Below.refl w.heap.size w)
 have H : ((Qav.f a1_0 0 2).bind fun t103 => (if t103 = true then ((Qav.f a1_1 a1_0 4).bind fun t104 => (if t104 = true then (Qap.j0 k (decide ((l1_2.length : Int) > 14)) l0_0 a1_0 a1_1 l1_2) else (Qap.j0 k true l0_0 a1_0 a1_1 l1_2))) else (Qap.j0 k true l0_0 a1_0 a1_1 l1_2))) = some r := h
 clear h
 have HC3 := Aside0.mk H
 clear H
 go_enter Try.func102, Try.ntmps102
 go_upto_region 1 with (first | ((with_reducible refine Qaq (N := 2) rfl ?_); (try (refine Qbg (by rfl) ?_; dsimp only)); refine Qam ?hg (N := 2) ?hd (cs := #[.slice A0_0 l0_0.length c0_0]) (t := 25) ?hr ?_; (case hd => rfl); (case hg => rfl); (case hr => first | (go_simp; done) | (go_simp; rfl)); intro gb101 hg w4 hbox hb; have n0_ := Aside0.mk (Qac (bw_) hb); have n1_ := Aside0.mk (hbox); have n2_ := Aside0.mk ((gs_ hg bw_ : w.heap.size ≤ gb101)); have n3_ := Aside0.mk ((gs_ hg bw_ : w.heap.size ≤ gb101)); clear HB; have HB := n0_; have BK101 := n1_; have GW101 := n2_; have GE101 := n3_; clear n0_ n1_ n2_ n3_; clear hb hbox hg) | ((with_reducible refine Qaq (N := 3) rfl ?_); (try (refine Qbg (by rfl) ?_; dsimp only)); refine Qam ?hg (N := 3) ?hd (cs := #[.int .i64 a1_0, .int .i64 a1_1, .slice A1_2 l1_2.length c1_2]) (t := 34) ?hr ?_; (case hd => rfl); (case hg => rfl); (case hr => first | (go_simp; done) | (go_simp; rfl)); intro gb102 hg w5 hbox hb; have n0_ := Aside0.mk (bb_ BK101 hb); have n1_ := Aside0.mk (Qac (bw_) hb); have n2_ := Aside0.mk (hbox); have n3_ := Aside0.mk ((gs_ hg bw_ : w.heap.size ≤ gb102)); have n4_ := Aside0.mk ((gs_ hg bw_ : w.heap.size ≤ gb102)); have n5_ := Aside0.mk ((nl_ hg BK101 : gb101 ≠ gb102)); have n6_ := Aside0.mk ((ng_ hg BK101 : gb102 ≠ gb101)); clear BK101; clear HB; have BK101 := n0_; have HB := n1_; have BK102 := n2_; have GW102 := n3_; have GE102 := n4_; have NB101_102 := n5_; have NB102_101 := n6_; clear n0_ n1_ n2_ n3_ n4_ n5_ n6_; clear hb hbox hg))
 (try simp only [Act.put, List.setIfInBounds_toArray, List.set_cons_zero, List.set_cons_succ])
 go_cut [23] (fun v23 wc => ∃ (kq : Nat) (x23_2 : Bool), v23 = .bool x23_2 ∧ Aside0 (Qap.j0 kq x23_2 l0_0 a1_0 a1_1 l1_2 = some r) ∧ Aside0 (kq ≤ k) ∧ Aside0 (wc.heap[gb101]? = some (.cells #[(.slice A0_0 l0_0.length c0_0)] 25 (0, 0))) ∧ Aside0 (wc.heap[gb102]? = some (.cells #[.int .i64 a1_0, .int .i64 a1_1, (.slice A1_2 l1_2.length c1_2)] 34 (0, 0))) ∧ Aside0 (Below w.heap.size w wc))
 case first =>
  have H := HC3.out
  clear HC3
  replace H := Option.bind_eq_some_iff.mp H
  obtain ⟨t103, A60, H⟩ := H
  replace H : (if t103 = true then ((Qav.f a1_1 a1_0 4).bind fun t104 => (if t104 = true then (Qap.j0 k (decide ((l1_2.length : Int) > 14)) l0_0 a1_0 a1_1 l1_2) else (Qap.j0 k true l0_0 a1_0 a1_1 l1_2))) else (Qap.j0 k true l0_0 a1_0 a1_1 l1_2)) = some r := H
  have A6 := Aside0.mk A60
  clear A60
  by_cases c7 : t103 = true
  · subst c7
    have H1 : ((Qav.f a1_1 a1_0 4).bind fun t104 => (if t104 = true then (Qap.j0 k (decide ((l1_2.length : Int) > 14)) l0_0 a1_0 a1_1 l1_2) else (Qap.j0 k true l0_0 a1_0 a1_1 l1_2))) = some r := by rw [if_pos rfl] at H; exact H
    clear H
    have H := H1
    clear H1
    replace H := Option.bind_eq_some_iff.mp H
    obtain ⟨t104, A80, H⟩ := H
    replace H : (if t104 = true then (Qap.j0 k (decide ((l1_2.length : Int) > 14)) l0_0 a1_0 a1_1 l1_2) else (Qap.j0 k true l0_0 a1_0 a1_1 l1_2)) = some r := H
    have A8 := Aside0.mk A80
    clear A80
    by_cases c9 : t104 = true
    · subst c9
      have H1 : (Qap.j0 k (decide ((l1_2.length : Int) > 14)) l0_0 a1_0 a1_1 l1_2) = some r := by rw [if_pos rfl] at H; exact H
      clear H
      have H := H1
      clear H1
      have H' := Aside0.mk H
      clear H
      have hnb10 := NB102_101.out
      have hnc10 := NB101_102.out
      have hcz11_0 : w5.cell? ⟨gb102, 0, none⟩ = some (.int .i64 a1_0) := (Qab BK102.out 0).trans rfl
      have hcz11_1 : w5.cell? ⟨gb102, 1, none⟩ = some (.int .i64 a1_1) := (Qab BK102.out 1).trans rfl
      have hcz11_2 : w5.cell? ⟨gb102, 2, none⟩ = some (.slice A1_2 l1_2.length c1_2) := (Qab BK102.out 2).trans rfl
      have hfz11_0 := Qad BK102.out 0
      have hfz11_1 := Qad BK102.out 1
      have hfz11_2 := Qad BK102.out 2
      go_wp2_with (first | ((with_reducible refine Qal (f := 58) rfl ?_); refine QaU (some 8) rfl rfl Try.func58 (by kernel_rfl) rfl #[.int .i64 a1_0, .int .i64 0, .int .i64 2] rfl (by (try simp only [List.map_toArray, List.map_cons, List.map_nil]); first | done | rfl | (simp only [List.length_drop, List.length_take]; rfl)) ?_; (with_reducible refine (Qav.calls a1_0 0 2 true _ A6.out).mono ?_); rintro e w' ⟨rfl, ⟨nd, rfl⟩⟩; refine ⟨_, rfl, ?_⟩) | (go_at_call 58; (with_reducible refine (Qav.calls a1_1 a1_0 4 true _ A8.out).mono ?_); rintro e w' ⟨rfl, ⟨nd, rfl⟩⟩))
      go_meet
      case rel => exact ⟨_, (decide ((l1_2.length : Int) > 14)), (by first | rfl | (simp; done) | (simp [*]; done)), H', ⟨by first | omega | exact Nat.le_refl _⟩, ⟨by (refine kb_ ?_); exact BK101.out⟩, ⟨by (refine kb_ ?_); exact BK102.out⟩, ⟨bw_⟩⟩
    · replace c9 := Bool.eq_false_iff.mpr c9
      subst c9
      have H1 : (Qap.j0 k true l0_0 a1_0 a1_1 l1_2) = some r := by rw [if_neg (show ¬ (false = true) by decide)] at H; exact H
      clear H
      have H := H1
      clear H1
      have H' := Aside0.mk H
      clear H
      have hnb12 := NB102_101.out
      have hnc12 := NB101_102.out
      have hcz13_0 : w5.cell? ⟨gb102, 0, none⟩ = some (.int .i64 a1_0) := (Qab BK102.out 0).trans rfl
      have hcz13_1 : w5.cell? ⟨gb102, 1, none⟩ = some (.int .i64 a1_1) := (Qab BK102.out 1).trans rfl
      have hcz13_2 : w5.cell? ⟨gb102, 2, none⟩ = some (.slice A1_2 l1_2.length c1_2) := (Qab BK102.out 2).trans rfl
      have hfz13_0 := Qad BK102.out 0
      have hfz13_1 := Qad BK102.out 1
      have hfz13_2 := Qad BK102.out 2
      go_wp2_with (first | ((with_reducible refine Qal (f := 58) rfl ?_); refine QaU (some 8) rfl rfl Try.func58 (by kernel_rfl) rfl #[.int .i64 a1_0, .int .i64 0, .int .i64 2] rfl (by (try simp only [List.map_toArray, List.map_cons, List.map_nil]); first | done | rfl | (simp only [List.length_drop, List.length_take]; rfl)) ?_; (with_reducible refine (Qav.calls a1_0 0 2 true _ A6.out).mono ?_); rintro e w' ⟨rfl, ⟨nd, rfl⟩⟩; refine ⟨_, rfl, ?_⟩) | (go_at_call 58; (with_reducible refine (Qav.calls a1_1 a1_0 4 false _ A8.out).mono ?_); rintro e w' ⟨rfl, ⟨nd, rfl⟩⟩))
      go_meet
      case rel => exact ⟨_, (true), (by first | rfl | (simp; done) | (simp [*]; done)), H', ⟨by first | omega | exact Nat.le_refl _⟩, ⟨by (refine kb_ ?_); exact BK101.out⟩, ⟨by (refine kb_ ?_); exact BK102.out⟩, ⟨bw_⟩⟩
  · replace c7 := Bool.eq_false_iff.mpr c7
    subst c7
    have H1 : (Qap.j0 k true l0_0 a1_0 a1_1 l1_2) = some r := by rw [if_neg (show ¬ (false = true) by decide)] at H; exact H
    clear H
    have H := H1
    clear H1
    have H' := Aside0.mk H
    clear H
    have hnb14 := NB102_101.out
    have hnc14 := NB101_102.out
    have hcz15_0 : w5.cell? ⟨gb102, 0, none⟩ = some (.int .i64 a1_0) := (Qab BK102.out 0).trans rfl
    have hcz15_1 : w5.cell? ⟨gb102, 1, none⟩ = some (.int .i64 a1_1) := (Qab BK102.out 1).trans rfl
    have hcz15_2 : w5.cell? ⟨gb102, 2, none⟩ = some (.slice A1_2 l1_2.length c1_2) := (Qab BK102.out 2).trans rfl
    have hfz15_0 := Qad BK102.out 0
    have hfz15_1 := Qad BK102.out 1
    have hfz15_2 := Qad BK102.out 2
    go_wp2_with (first | ((with_reducible refine Qal (f := 58) rfl ?_); refine QaU (some 8) rfl rfl Try.func58 (by kernel_rfl) rfl #[.int .i64 a1_0, .int .i64 0, .int .i64 2] rfl (by (try simp only [List.map_toArray, List.map_cons, List.map_nil]); first | done | rfl | (simp only [List.length_drop, List.length_take]; rfl)) ?_; (with_reducible refine (Qav.calls a1_0 0 2 false _ A6.out).mono ?_); rintro e w' ⟨rfl, ⟨nd, rfl⟩⟩; refine ⟨_, rfl, ?_⟩))
    go_meet
    case rel => exact ⟨_, (true), (by first | rfl | (simp; done) | (simp [*]; done)), H', ⟨by first | omega | exact Nat.le_refl _⟩, ⟨by (refine kb_ ?_); exact BK101.out⟩, ⟨by (refine kb_ ?_); exact BK102.out⟩, ⟨bw_⟩⟩
 case rest =>
  clear HC3
  try clear c1
  try clear p2
  try clear c5
  try clear c7
  try clear c9
  try clear c10
  try clear c12
  try clear c14
  try clear hcz11_0
  try clear hcz11_1
  try clear hcz11_2
  try clear hcz13_0
  try clear hcz13_1
  try clear hcz13_2
  try clear hcz15_0
  try clear hcz15_1
  try clear hcz15_2
  try clear hfz11_0
  try clear hfz11_1
  try clear hfz11_2
  try clear hfz13_0
  try clear hfz13_1
  try clear hfz13_2
  try clear hfz15_0
  try clear hfz15_1
  try clear hfz15_2
  obtain ⟨kq, x23_2, rfl, HA, HJ2, BK101, BK102, HB⟩ := hcut
  cases kq with
  | zero => exact absurd HA.out (by simp [Qap.j0])
  | succ kj2 =>
    have H := HA.out
    clear HA
    simp only [Qap.j0] at H
    by_cases c16 : x23_2 = true
    · subst c16
      have H1 : (some false) = some r := by rw [if_pos rfl] at H; exact H
      clear H
      have H := H1
      clear H1
      obtain rfl := Option.some.inj H
      go_wp2
      go_ret
      exact ⟨by first | rfl | (simp [Qaf, Qag] <;> rfl) | (simp [*, Qaf, Qag] <;> rfl), bw_⟩
    · replace c16 := Bool.eq_false_iff.mpr c16
      subst c16
      have H1 : (Qap.l0 kj2 0 l0_0 a1_0 a1_1 l1_2) = some r := by rw [if_neg (show ¬ (false = true) by decide)] at H; exact H
      clear H
      have H := H1
      clear H1
      have H' := Aside0.mk H
      clear H
      go_wp2
      go_loopg [5] kj2 (fun kq v5 w' => ∃ (x5_2 : Int), v5 = .int .i64 x5_2 ∧ Aside0 (Qap.l0 kq x5_2 l0_0 a1_0 a1_1 l1_2 = some r) ∧ Aside0 (kq ≤ kj2) ∧ Aside0 (w'.heap[gb101]? = some (.cells #[(.slice A0_0 l0_0.length c0_0)] 25 (0, 0))) ∧ Aside0 (w'.heap[gb102]? = some (.cells #[.int .i64 a1_0, .int .i64 a1_1, (.slice A1_2 l1_2.length c1_2)] 34 (0, 0))) ∧ Aside0 (Below w.heap.size w w'))
      case atStart => exact ⟨(0), (by first | rfl | (simp; done) | (simp [*]; done)), H', ⟨Nat.le_refl _⟩, ⟨by (refine kb_ ?_); exact BK101.out⟩, ⟨by (refine kb_ ?_); exact BK102.out⟩, ⟨bw_⟩⟩
      case round =>
       clear H'
       try clear c1
       try clear p2
       try clear c5
       try clear c7
       try clear c9
       try clear c10
       try clear c12
       try clear c14
       try clear c16
       try clear hcz11_0
       try clear hcz11_1
       try clear hcz11_2
       try clear hcz13_0
       try clear hcz13_1
       try clear hcz13_2
       try clear hcz15_0
       try clear hcz15_1
       try clear hcz15_2
       try clear hfz11_0
       try clear hfz11_1
       try clear hfz11_2
       try clear hfz13_0
       try clear hfz13_1
       try clear hfz13_2
       try clear hfz15_0
       try clear hfz15_1
       try clear hfz15_2
       try clear p2
       obtain ⟨x5_2, rfl, HA, HK2, BK101, BK102, HB⟩ := hrel
       cases gk with
       | zero => exact absurd HA.out (by simp [Qap.l0])
       | succ k2 =>
         have H := HA.out
         clear HA
         simp only [Qap.l0] at H
         by_cases c17 : x5_2 < (l1_2.length : Int)
         · rw [if_pos c17] at H
           have c17b0 : decide (x5_2 < (l1_2.length : Int)) = true := decide_eq_true c17
           clear c17
           by_cases c18 : 0 ≤ x5_2
           · rw [if_pos c18] at H
             have c18b0 : decide (0 ≤ x5_2) = true := decide_eq_true c18
             clear c18
             replace H := Option.bind_eq_some_iff.mp H
             obtain ⟨t106, A190, H⟩ := H
             replace H : (if t106 = true then (Qap.l0 k2 (wrap64 (x5_2 + 1)) l0_0 a1_0 a1_1 l1_2) else (some false)) = some r := H
             have A19 := Aside0.mk A190
             clear A190
             by_cases c20 : t106 = true
             · subst c20
               have H1 : (Qap.l0 k2 (wrap64 (x5_2 + 1)) l0_0 a1_0 a1_1 l1_2) = some r := by rw [if_pos rfl] at H; exact H
               clear H
               have H := H1
               clear H1
               have H' := Aside0.mk H
               clear H
               have hnb21 := NB102_101.out
               have hnc21 := NB101_102.out
               have hcz22_0 : wr.cell? ⟨gb102, 0, none⟩ = some (.int .i64 a1_0) := (Qab BK102.out 0).trans rfl
               have hcz22_1 : wr.cell? ⟨gb102, 1, none⟩ = some (.int .i64 a1_1) := (Qab BK102.out 1).trans rfl
               have hcz22_2 : wr.cell? ⟨gb102, 2, none⟩ = some (.slice A1_2 l1_2.length c1_2) := (Qab BK102.out 2).trans rfl
               have hfz22_0 := Qad BK102.out 0
               have hfz22_1 := Qad BK102.out 1
               have hfz22_2 := Qad BK102.out 2
               try go_wp2
               have n0_ := Aside0.mk (Qa2 BK101.out)
               have n1_ := Aside0.mk (Qa2 BK102.out)
               have n2_ := Aside0.mk (Qa7 HB.out)
               clear BK101
               clear BK102
               clear HB
               have BK101 := n0_
               have BK102 := n1_
               have HB := n2_
               clear n0_ n1_ n2_
               have p105 : 0 ≤ (x5_2 : Int) := of_decide_eq_true (by first | (with_reducible assumption) | assumption)
               have q105 : x5_2 < (l1_2.length : Int) := of_decide_eq_true (by first | (with_reducible assumption) | assumption)
               obtain ⟨ad105, e105, hx105_0, hx105_1⟩ := Qck HR1_2.out x5_2 p105 q105
               have hw105_1 := hx105_1
               have hw105_0 := hx105_0
               cases e105
               replace hx105_0 := pc_ HB hx105_0
               replace hx105_1 := pc_ HB hx105_1
               replace p105 := eq_true p105
               replace q105 := eq_true q105
               refine QbP (n := 9) (S := fun w' => w'.cell? ⟨gb101, 0, none⟩ = some (.slice A0_0 l0_0.length c0_0) ∧ w'.cell? ⟨gb102, 0, none⟩ = some (.int .i64 a1_0) ∧ w'.cell? ⟨gb102, 1, none⟩ = some (.int .i64 a1_1) ∧ w'.cell? ⟨gb102, 2, none⟩ = some (.slice (some ad105) l1_2.length c1_2) ∧ w'.cell? (ad105.add ((x5_2).toNat * 2)) = some (.int .i64 ((QaH l1_2 x5_2).f0)) ∧ w'.cell? ⟨(ad105.add ((x5_2).toNat * 2)).block, (ad105.add ((x5_2).toNat * 2)).off + 1, none⟩ = some (.int .i64 ((QaH l1_2 x5_2).f1))) (ds := []) #[false, false, false, false, false, false, false, false, false] (by kernel_rfl) rfl rfl ⟨(Qab BK101.out 0).trans rfl, (Qab BK102.out 0).trans rfl, (Qab BK102.out 1).trans rfl, (Qab BK102.out 2).trans rfl, (pc_ HB hw105_0), (pc_ HB hw105_1)⟩ (fun hHeld => ?_); refine Qbz Qap.tab6 Qap.bits6 (fun HT_ HW_ => ?_)
               generalize wr.drew = w23 at BK101 BK102 HB hx105_0 hx105_1 hHeld ⊢
               refine pu_ 2 (some 33) #[false, false, true, false, false, false, false, false, false] rfl rfl ?_
               refine pu_ 4 (some 35) #[false, false, true, false, true, false, false, false, false] rfl rfl ?_
               refine tk_ 0 (some 31) #[true, false, true, false, true, false, false, false, false] rfl rfl hHeld ?_
               refine tk_ 1 (some 32) #[true, true, true, false, true, false, false, false, false] rfl rfl hHeld ?_
               refine tk_ 3 (some 34) #[true, true, true, true, true, false, false, false, false] rfl rfl hHeld ?_
               refine pu_ 5 (some 36) #[true, true, true, true, true, true, false, false, false] rfl rfl ?_
               refine tk_ 6 (some 37) #[true, true, true, true, true, true, true, false, false] rfl rfl hHeld ?_
               refine Qcx (i := 7) (N := some 38) #[true, true, true, true, true, true, true, true, false] rfl rfl (Qb2 HT_.out (by kernel_rfl)) (by decide) (fun K hK => ?_)
               refine QbL Try.func129 (by kernel_rfl) rfl #[.agg #[.slice A0_0 l0_0.length c0_0], .agg #[.int .i64 a1_0, .int .i64 a1_1, .slice (some ad105) l1_2.length c1_2], .agg #[.int .i64 ((QaH l1_2 x5_2).f0), .int .i64 ((QaH l1_2 x5_2).f1)]] (by rfl) rfl rfl (by (try simp only [List.map_toArray, List.map_cons, List.map_nil]); first | done | rfl | (simp only [List.length_drop, List.length_take]; rfl)) ?_
               with_reducible refine (QaJ.calls k2 _ _ l0_0 a1_0 a1_1 _ _ l1_2 ((QaH l1_2 x5_2).f0) ((QaH l1_2 x5_2).f1) true _ ?side1 ?side2 ?side3 ?side4 A19.out).mono ?_
               (case side1 => exact cb_)
               (case side2 => exact HC0_0.out)
               (case side3 => exact cb_)
               (case side4 => exact HC1_2.out)
               rintro e w24 ⟨rfl, hb⟩
               refine ⟨_, rfl, ?_⟩
               have n0_ := Aside0.mk (bb_ BK101 hb)
               have n1_ := Aside0.mk (bb_ BK102 hb)
               have n2_ := Aside0.mk (Qac (bw_) hb)
               clear BK101
               clear BK102
               clear HB
               have BK101 := n0_
               have BK102 := n1_
               have HB := n2_
               clear n0_ n1_ n2_
               (try clear hb)
               (try clear hb2)
               (try clear hk)
               (try clear hi)
               refine hK.out _ _ ⟨(Qab BK101.out 0).trans rfl, (Qab BK102.out 0).trans rfl, (Qab BK102.out 1).trans rfl, (Qab BK102.out 2).trans rfl, (pc_ HB hw105_0), (pc_ HB hw105_1)⟩ (fun hHeld => ?_)
               clear hK K
               refine QbK (a' := ?_) ?_ ?_
               rotate_left
               · show Act.put _ (some 38) _ = _
                 simp only [Act.put, List.setIfInBounds_toArray, List.set_cons_zero, List.set_cons_succ, QbA, QbB]
                 rfl
               refine pu_ 8 (some 39) #[true, true, true, true, true, true, true, true, true] rfl rfl ?_
               refine Qcc (QbS HT_.out (by kernel_rfl)) ?_
               try go_wp2
               go_roundg k2
               case measure => have := HJ2.out; have := HK2.out; omega
               case rel => exact ⟨(wrap64 (x5_2 + 1)), (by first | rfl | (simp; done) | (simp [*]; done)), H', ⟨by have := HJ2.out; have := HK2.out; omega⟩, ⟨by (refine kb_ ?_); exact BK101.out⟩, ⟨by (refine kb_ ?_); exact BK102.out⟩, ⟨bw_⟩⟩
             · replace c20 := Bool.eq_false_iff.mpr c20
               subst c20
               have H1 : (some false) = some r := by rw [if_neg (show ¬ (false = true) by decide)] at H; exact H
               clear H
               have H := H1
               clear H1
               obtain rfl := Option.some.inj H
               have hnb25 := NB102_101.out
               have hnc25 := NB101_102.out
               have hcz26_0 : wr.cell? ⟨gb102, 0, none⟩ = some (.int .i64 a1_0) := (Qab BK102.out 0).trans rfl
               have hcz26_1 : wr.cell? ⟨gb102, 1, none⟩ = some (.int .i64 a1_1) := (Qab BK102.out 1).trans rfl
               have hcz26_2 : wr.cell? ⟨gb102, 2, none⟩ = some (.slice A1_2 l1_2.length c1_2) := (Qab BK102.out 2).trans rfl
               have hfz26_0 := Qad BK102.out 0
               have hfz26_1 := Qad BK102.out 1
               have hfz26_2 := Qad BK102.out 2
               try go_wp2
               have n0_ := Aside0.mk (Qa2 BK101.out)
               have n1_ := Aside0.mk (Qa2 BK102.out)
               have n2_ := Aside0.mk (Qa7 HB.out)
               clear BK101
               clear BK102
               clear HB
               have BK101 := n0_
               have BK102 := n1_
               have HB := n2_
               clear n0_ n1_ n2_
               have p105 : 0 ≤ (x5_2 : Int) := of_decide_eq_true (by first | (with_reducible assumption) | assumption)
               have q105 : x5_2 < (l1_2.length : Int) := of_decide_eq_true (by first | (with_reducible assumption) | assumption)
               obtain ⟨ad105, e105, hx105_0, hx105_1⟩ := Qck HR1_2.out x5_2 p105 q105
               have hw105_1 := hx105_1
               have hw105_0 := hx105_0
               cases e105
               replace hx105_0 := pc_ HB hx105_0
               replace hx105_1 := pc_ HB hx105_1
               replace p105 := eq_true p105
               replace q105 := eq_true q105
               refine QbP (n := 9) (S := fun w' => w'.cell? ⟨gb101, 0, none⟩ = some (.slice A0_0 l0_0.length c0_0) ∧ w'.cell? ⟨gb102, 0, none⟩ = some (.int .i64 a1_0) ∧ w'.cell? ⟨gb102, 1, none⟩ = some (.int .i64 a1_1) ∧ w'.cell? ⟨gb102, 2, none⟩ = some (.slice (some ad105) l1_2.length c1_2) ∧ w'.cell? (ad105.add ((x5_2).toNat * 2)) = some (.int .i64 ((QaH l1_2 x5_2).f0)) ∧ w'.cell? ⟨(ad105.add ((x5_2).toNat * 2)).block, (ad105.add ((x5_2).toNat * 2)).off + 1, none⟩ = some (.int .i64 ((QaH l1_2 x5_2).f1))) (ds := []) #[false, false, false, false, false, false, false, false, false] (by kernel_rfl) rfl rfl ⟨(Qab BK101.out 0).trans rfl, (Qab BK102.out 0).trans rfl, (Qab BK102.out 1).trans rfl, (Qab BK102.out 2).trans rfl, (pc_ HB hw105_0), (pc_ HB hw105_1)⟩ (fun hHeld => ?_); refine Qbz Qap.tab6 Qap.bits6 (fun HT_ HW_ => ?_)
               generalize wr.drew = w27 at BK101 BK102 HB hx105_0 hx105_1 hHeld ⊢
               refine pu_ 2 (some 33) #[false, false, true, false, false, false, false, false, false] rfl rfl ?_
               refine pu_ 4 (some 35) #[false, false, true, false, true, false, false, false, false] rfl rfl ?_
               refine tk_ 0 (some 31) #[true, false, true, false, true, false, false, false, false] rfl rfl hHeld ?_
               refine tk_ 1 (some 32) #[true, true, true, false, true, false, false, false, false] rfl rfl hHeld ?_
               refine tk_ 3 (some 34) #[true, true, true, true, true, false, false, false, false] rfl rfl hHeld ?_
               refine pu_ 5 (some 36) #[true, true, true, true, true, true, false, false, false] rfl rfl ?_
               refine tk_ 6 (some 37) #[true, true, true, true, true, true, true, false, false] rfl rfl hHeld ?_
               refine Qcx (i := 7) (N := some 38) #[true, true, true, true, true, true, true, true, false] rfl rfl (Qb2 HT_.out (by kernel_rfl)) (by decide) (fun K hK => ?_)
               refine QbL Try.func129 (by kernel_rfl) rfl #[.agg #[.slice A0_0 l0_0.length c0_0], .agg #[.int .i64 a1_0, .int .i64 a1_1, .slice (some ad105) l1_2.length c1_2], .agg #[.int .i64 ((QaH l1_2 x5_2).f0), .int .i64 ((QaH l1_2 x5_2).f1)]] (by rfl) rfl rfl (by (try simp only [List.map_toArray, List.map_cons, List.map_nil]); first | done | rfl | (simp only [List.length_drop, List.length_take]; rfl)) ?_
               with_reducible refine (QaJ.calls k2 _ _ l0_0 a1_0 a1_1 _ _ l1_2 ((QaH l1_2 x5_2).f0) ((QaH l1_2 x5_2).f1) false _ ?side1 ?side2 ?side3 ?side4 A19.out).mono ?_
               (case side1 => exact cb_)
               (case side2 => exact HC0_0.out)
               (case side3 => exact cb_)
               (case side4 => exact HC1_2.out)
               rintro e w28 ⟨rfl, hb⟩
               refine ⟨_, rfl, ?_⟩
               have n0_ := Aside0.mk (bb_ BK101 hb)
               have n1_ := Aside0.mk (bb_ BK102 hb)
               have n2_ := Aside0.mk (Qac (bw_) hb)
               clear BK101
               clear BK102
               clear HB
               have BK101 := n0_
               have BK102 := n1_
               have HB := n2_
               clear n0_ n1_ n2_
               (try clear hb)
               (try clear hb2)
               (try clear hk)
               (try clear hi)
               refine hK.out _ _ ⟨(Qab BK101.out 0).trans rfl, (Qab BK102.out 0).trans rfl, (Qab BK102.out 1).trans rfl, (Qab BK102.out 2).trans rfl, (pc_ HB hw105_0), (pc_ HB hw105_1)⟩ (fun hHeld => ?_)
               clear hK K
               refine QbK (a' := ?_) ?_ ?_
               rotate_left
               · show Act.put _ (some 38) _ = _
                 simp only [Act.put, List.setIfInBounds_toArray, List.set_cons_zero, List.set_cons_succ, QbA, QbB]
                 rfl
               refine pu_ 8 (some 39) #[true, true, true, true, true, true, true, true, true] rfl rfl ?_
               refine Qcc (QbS HT_.out (by kernel_rfl)) ?_
               try go_wp2
               go_ret
               exact ⟨by first | rfl | (simp [Qaf, Qag] <;> rfl) | (simp [*, Qaf, Qag] <;> rfl), bw_⟩
           · rw [if_neg c18] at H
             exact absurd H (by simp)
         · rw [if_neg c17] at H
           have c17b0 : decide (x5_2 < (l1_2.length : Int)) = false := decide_eq_false c17
           clear c17
           obtain rfl := Option.some.inj H
           have hnb29 := NB102_101.out
           have hnc29 := NB101_102.out
           have hcz30_0 : wr.cell? ⟨gb102, 0, none⟩ = some (.int .i64 a1_0) := (Qab BK102.out 0).trans rfl
           have hcz30_1 : wr.cell? ⟨gb102, 1, none⟩ = some (.int .i64 a1_1) := (Qab BK102.out 1).trans rfl
           have hcz30_2 : wr.cell? ⟨gb102, 2, none⟩ = some (.slice A1_2 l1_2.length c1_2) := (Qab BK102.out 2).trans rfl
           have hfz30_0 := Qad BK102.out 0
           have hfz30_1 := Qad BK102.out 1
           have hfz30_2 := Qad BK102.out 2
           go_wp2
           go_ret
           exact ⟨by first | rfl | (simp [Qaf, Qag] <;> rfl) | (simp [*, Qaf, Qag] <;> rfl), bw_⟩
end Go.Proofs.Ytabcijheemjplaa.G
namespace Go.Proofs.Ytabcijheemjplaa.G
open Go.RowKit Go.Proofs.YtabcijheemjplaaW.PrintWords Go.Proofs.YtabcijheemjplaaW.PrintLast Go.Proofs.YtabcijheemjplaaW.PrintMore
attribute [local go_sem] Qa3 Qa4 Qbc Qbd QaP QaQ Qa5 Qa6
set_option linter.unusedVariables false
set_option linter.unusedSimpArgs false
mutual
def Qax.j0 : Nat → Bool → List (Qai) → Option (Bool)
 | 0, _, _ => none
 | k + 1, x16, x102000 => if x16 = true then (some false) else (Qax.l0 k 0 x102000)
def Qax.l0 : Nat → Int → List (Qai) → Option (Bool)
 | 0, _, _ => none
 | k + 1, x3, x102000 => if x3 < (x102000.length : Int) then (if 0 ≤ x3 then ((Qap.f k x102000 ((Qae x102000 x3).f0) ((Qae x102000 x3).f1) ((Qae x102000 x3).f2)).bind fun t105 => (if t105 = true then (Qax.l0 k (wrap64 (x3 + 1)) x102000) else (some false))) else (none)) else (some true)
end
def Qax.f (k : Nat) (l0_0 : List (Qai)) : Option (Bool) := (Qav.f (l0_0.length : Int) 1 4).bind fun t102 => (if t102 = true then (if 0 < (l0_0.length : Int) then (Qax.j0 k (((Qae l0_0 0).f0) != 0) l0_0) else (none)) else (Qax.j0 k true l0_0))
theorem Qax.mono_l : ∀ k, (∀ y0 y1, LeO (Qax.j0 k y0 y1) (Qax.j0 (k + 1) y0 y1)) ∧ (∀ y0 y1, LeO (Qax.l0 k y0 y1) (Qax.l0 (k + 1) y0 y1))
 | 0 => ⟨fun _ _ r h => by simp [Qax.j0] at h, fun _ _ r h => by simp [Qax.l0] at h⟩
 | k + 1 => by
   obtain ⟨ih0, ih1⟩ := Qax.mono_l k
   refine ⟨?_, ?_⟩
   · intro y0 y1
     unfold Qax.j0
     repeat' first
     | (with_reducible exact ih0 _ _)
     | (with_reducible exact ih1 _ _)
     | (with_reducible exact Qap.mono _ _ _ _ _)
     | (with_reducible exact LeO.refl _)
     | (with_reducible exact LeO.none _)
     | (with_reducible refine LeO.ite ?_ ?_)
     | (with_reducible refine LeO.bind ?_ (fun _ => ?_))
     | exact ih0 _ _
     | exact ih1 _ _
     | exact Qap.mono _ _ _ _ _
     | exact LeO.none _
     | refine LeO.ite ?_ ?_
     | refine LeO.bind ?_ (fun _ => ?_)
   · intro y0 y1
     unfold Qax.l0
     repeat' first
     | (with_reducible exact ih0 _ _)
     | (with_reducible exact ih1 _ _)
     | (with_reducible exact Qap.mono _ _ _ _ _)
     | (with_reducible exact LeO.refl _)
     | (with_reducible exact LeO.none _)
     | (with_reducible refine LeO.ite ?_ ?_)
     | (with_reducible refine LeO.bind ?_ (fun _ => ?_))
     | exact ih0 _ _
     | exact ih1 _ _
     | exact Qap.mono _ _ _ _ _
     | exact LeO.none _
     | refine LeO.ite ?_ ?_
     | refine LeO.bind ?_ (fun _ => ?_)
theorem Qax.mono : ∀ a0 k, LeO (Qax.f k a0) (Qax.f (k + 1) a0) := by
 intro a0 k
 obtain ⟨ih0, ih1⟩ := Qax.mono_l k
 unfold Qax.f
 repeat' first
  | (with_reducible exact ih0 _ _)
  | (with_reducible exact ih1 _ _)
  | (with_reducible exact Qap.mono _ _ _ _ _)
  | (with_reducible exact LeO.refl _)
  | (with_reducible exact LeO.none _)
  | (with_reducible refine LeO.ite ?_ ?_)
  | (with_reducible refine LeO.bind ?_ (fun _ => ?_))
  | exact ih0 _ _
  | exact ih1 _ _
  | exact Qap.mono _ _ _ _ _
  | exact LeO.none _
  | refine LeO.ite ?_ ?_
  | refine LeO.bind ?_ (fun _ => ?_)
def Qax.T6 : Bool × List (List Nat × List Nat) := (true, [([], []), ([], []), ([1], [1]), ([], []), ([2, 3], [2, 3]), ([4], [4]), ([0, 5], [0, 5]), ([6], [6])])
def Qax.B6 : List Nat := [0, 0, 2, 0, 14, 30, 63, 127]
theorem Qax.tab6 : rtab .any (opsOf Try.f57 6) = Qax.T6 := by kernel_rfl
theorem Qax.bits6 : Qcj Qax.T6.2 Qax.B6 = true := by kernel_rfl
set_option maxHeartbeats 8000000 in
set_option maxRecDepth 100000 in
theorem Qax.calls (k : Nat) (A0_0 : Option Addr) (c0_0 : Nat) (l0_0 : List (Qai)) (r : Bool) (w : World) (hr0_0 : Kd.C QaI w A0_0 l0_0.length l0_0) (hc0_0 : l0_0.length ≤ c0_0) (h : Qax.f k l0_0 = some r) :
 Calls Try.prog 57 #[.agg #[.slice A0_0 l0_0.length c0_0]] w fun e w' => e = .returned (.bool r) ∧ Below w.heap.size w w' := by
 have hu25 := Try.underlying25
 have hu34 := Try.underlying34
 have HR0_0 := Aside0.mk hr0_0
 have HC0_0 := Aside0.mk hc0_0
 clear hr0_0 hc0_0
 have HB := Aside0.mk (Below.refl w.heap.size w)
 have H : ((Qav.f (l0_0.length : Int) 1 4).bind fun t102 => (if t102 = true then (if 0 < (l0_0.length : Int) then (Qax.j0 k (((Qae l0_0 0).f0) != 0) l0_0) else (none)) else (Qax.j0 k true l0_0))) = some r := h
 clear h
 have HC2 := Aside0.mk H
 clear H
 go_enter Try.func57, Try.ntmps57
 go_upto_region 1 with (first | ((with_reducible refine Qaq (N := 1) rfl ?_); refine Qam ?hg (N := 1) ?hd (cs := #[.slice A0_0 l0_0.length c0_0]) (t := 25) ?hr ?_; (case hd => rfl); (case hg => rfl); (case hr => first | (go_simp; done) | (go_simp; rfl)); intro gb101 hg w3 hbox hb; have n0_ := Aside0.mk (Qac (bw_) hb); have n1_ := Aside0.mk (hbox); have n2_ := Aside0.mk ((gs_ hg bw_ : w.heap.size ≤ gb101)); have n3_ := Aside0.mk ((gs_ hg bw_ : w.heap.size ≤ gb101)); clear HB; have HB := n0_; have BK101 := n1_; have GW101 := n2_; have GE101 := n3_; clear n0_ n1_ n2_ n3_; clear hb hbox hg))
 (try simp only [Act.put, List.setIfInBounds_toArray, List.set_cons_zero, List.set_cons_succ])
 go_cut [16] (fun v16 wc => ∃ (kq : Nat) (x16_1 : Bool), v16 = .bool x16_1 ∧ Aside0 (Qax.j0 kq x16_1 l0_0 = some r) ∧ Aside0 (kq ≤ k) ∧ Aside0 (wc.heap[gb101]? = some (.cells #[(.slice A0_0 l0_0.length c0_0)] 25 (0, 0))) ∧ Aside0 (Below w.heap.size w wc))
 case first =>
  have H := HC2.out
  clear HC2
  replace H := Option.bind_eq_some_iff.mp H
  obtain ⟨t102, A40, H⟩ := H
  replace H : (if t102 = true then (if 0 < (l0_0.length : Int) then (Qax.j0 k (((Qae l0_0 0).f0) != 0) l0_0) else (none)) else (Qax.j0 k true l0_0)) = some r := H
  have A4 := Aside0.mk A40
  clear A40
  by_cases c5 : t102 = true
  · subst c5
    have H1 : (if 0 < (l0_0.length : Int) then (Qax.j0 k (((Qae l0_0 0).f0) != 0) l0_0) else (none)) = some r := by rw [if_pos rfl] at H; exact H
    clear H
    have H := H1
    clear H1
    by_cases c6 : 0 < (l0_0.length : Int)
    · rw [if_pos c6] at H
      have c6b0 : decide (0 < (l0_0.length : Int)) = true := decide_eq_true c6
      have c6b1 : decide (0 < l0_0.length) = true := decide_eq_true (by omega)
      clear c6
      (first | rw [c6b0] | (simp only [QbA, QbB]; rw [c6b0]) | skip)
      have H' := Aside0.mk H
      clear H
      have hcz7_0 : w3.cell? ⟨gb101, 0, none⟩ = some (.slice A0_0 l0_0.length c0_0) := (Qab BK101.out 0).trans rfl
      have hfz7_0 := Qad BK101.out 0
      go_wp2_with (first | ((with_reducible refine Qal (f := 58) rfl ?_); refine QaU (some 7) rfl rfl Try.func58 (by kernel_rfl) rfl #[.int .i64 (l0_0.length : Int), .int .i64 1, .int .i64 4] rfl (by (try simp only [List.map_toArray, List.map_cons, List.map_nil]); first | done | rfl | (simp only [List.length_drop, List.length_take]; rfl)) ?_; (with_reducible refine (Qav.calls (l0_0.length : Int) 1 4 true _ A4.out).mono ?_); rintro e w' ⟨rfl, ⟨nd, rfl⟩⟩; refine ⟨_, rfl, ?_⟩; have p103 : 0 ≤ (0 : Int) := (by omega); have q103 : 0 < (l0_0.length : Int) := of_decide_eq_true (by first | (with_reducible assumption) | assumption); obtain ⟨ad103, A103_2, c103_2, e103, hx103_0, hx103_1, hx103_2, hl103_2, hi103_2⟩ := Qbh HR0_0.out 0 p103 q103; cases e103; have qi103 : (0 < l0_0.length) = True := eq_true (by omega); (try rw [show ((0 : Int)).toNat = 0 from rfl] at hx103_0); (try rw [show 0 * 3 = 0 from rfl] at hx103_0); (try rw [Addr.add_zero'] at hx103_0); (try rw [show ((0 : Int)).toNat = 0 from rfl] at hx103_1); (try rw [show 0 * 3 = 0 from rfl] at hx103_1); (try rw [Addr.add_zero'] at hx103_1); (try rw [show ((0 : Int)).toNat = 0 from rfl] at hx103_2); (try rw [show 0 * 3 = 0 from rfl] at hx103_2); (try rw [Addr.add_zero'] at hx103_2); replace hx103_0 := (HB.out.cell (World.block_lt_of_cell? w _ hx103_0)).trans hx103_0; replace hx103_1 := (HB.out.cell (World.block_lt_of_cell? w _ hx103_1)).trans hx103_1; replace hx103_2 := (HB.out.cell (World.block_lt_of_cell? w _ hx103_2)).trans hx103_2; have HR103_2 := Aside0.mk hi103_2; have HC103_2 := Aside0.mk hl103_2; clear hi103_2 hl103_2; replace p103 := eq_true p103; replace q103 := eq_true q103))
      go_meet
      case rel => exact ⟨_, ((((Qae l0_0 0).f0) != 0)), (by first | rfl | (simp; done) | (simp [*]; done)), H', ⟨by first | omega | exact Nat.le_refl _⟩, ⟨by (refine kb_ ?_); exact BK101.out⟩, ⟨bw_⟩⟩
    · rw [if_neg c6] at H
      exact absurd H (by simp)
  · replace c5 := Bool.eq_false_iff.mpr c5
    subst c5
    have H1 : (Qax.j0 k true l0_0) = some r := by rw [if_neg (show ¬ (false = true) by decide)] at H; exact H
    clear H
    have H := H1
    clear H1
    have H' := Aside0.mk H
    clear H
    have hcz8_0 : w3.cell? ⟨gb101, 0, none⟩ = some (.slice A0_0 l0_0.length c0_0) := (Qab BK101.out 0).trans rfl
    have hfz8_0 := Qad BK101.out 0
    go_wp2_with (first | ((with_reducible refine Qal (f := 58) rfl ?_); refine QaU (some 7) rfl rfl Try.func58 (by kernel_rfl) rfl #[.int .i64 (l0_0.length : Int), .int .i64 1, .int .i64 4] rfl (by (try simp only [List.map_toArray, List.map_cons, List.map_nil]); first | done | rfl | (simp only [List.length_drop, List.length_take]; rfl)) ?_; (with_reducible refine (Qav.calls (l0_0.length : Int) 1 4 false _ A4.out).mono ?_); rintro e w' ⟨rfl, ⟨nd, rfl⟩⟩; refine ⟨_, rfl, ?_⟩))
    go_meet
    case rel => exact ⟨_, (true), (by first | rfl | (simp; done) | (simp [*]; done)), H', ⟨by first | omega | exact Nat.le_refl _⟩, ⟨by (refine kb_ ?_); exact BK101.out⟩, ⟨bw_⟩⟩
 case rest =>
  clear HC2
  try clear c1
  try clear p1
  try clear q1
  try clear hx1
  try clear qi1
  try clear p2
  try clear c5
  try clear c6
  try clear c6b0
  try clear c6b1
  try clear hcz7_0
  try clear hcz8_0
  try clear hfz7_0
  try clear hfz8_0
  try clear hx103_0
  try clear hx103_1
  try clear hx103_2
  try clear p103
  try clear q103
  obtain ⟨kq, x16_1, rfl, HA, HJ1, BK101, HB⟩ := hcut
  cases kq with
  | zero => exact absurd HA.out (by simp [Qax.j0])
  | succ kj1 =>
    have H := HA.out
    clear HA
    simp only [Qax.j0] at H
    by_cases c9 : x16_1 = true
    · subst c9
      have H1 : (some false) = some r := by rw [if_pos rfl] at H; exact H
      clear H
      have H := H1
      clear H1
      obtain rfl := Option.some.inj H
      go_wp2
      go_ret
      exact ⟨by first | rfl | (simp [Qaf, Qag] <;> rfl) | (simp [*, Qaf, Qag] <;> rfl), bw_⟩
    · replace c9 := Bool.eq_false_iff.mpr c9
      subst c9
      have H1 : (Qax.l0 kj1 0 l0_0) = some r := by rw [if_neg (show ¬ (false = true) by decide)] at H; exact H
      clear H
      have H := H1
      clear H1
      have H' := Aside0.mk H
      clear H
      go_wp2
      go_loopg [3] kj1 (fun kq v3 w' => ∃ (x3_2 : Int), v3 = .int .i64 x3_2 ∧ Aside0 (Qax.l0 kq x3_2 l0_0 = some r) ∧ Aside0 (kq ≤ kj1) ∧ Aside0 (w'.heap[gb101]? = some (.cells #[(.slice A0_0 l0_0.length c0_0)] 25 (0, 0))) ∧ Aside0 (Below w.heap.size w w'))
      case atStart => exact ⟨(0), (by first | rfl | (simp; done) | (simp [*]; done)), H', ⟨Nat.le_refl _⟩, ⟨by (refine kb_ ?_); exact BK101.out⟩, ⟨bw_⟩⟩
      case round =>
       clear H'
       try clear c1
       try clear p1
       try clear q1
       try clear hx1
       try clear qi1
       try clear p2
       try clear c5
       try clear c6
       try clear c6b0
       try clear c6b1
       try clear c9
       try clear hcz7_0
       try clear hcz8_0
       try clear hfz7_0
       try clear hfz8_0
       try clear hx103_0
       try clear hx103_1
       try clear hx103_2
       try clear p1
       try clear p103
       try clear p2
       try clear q1
       try clear q103
       obtain ⟨x3_2, rfl, HA, HK2, BK101, HB⟩ := hrel
       cases gk with
       | zero => exact absurd HA.out (by simp [Qax.l0])
       | succ k2 =>
         have H := HA.out
         clear HA
         simp only [Qax.l0] at H
         by_cases c10 : x3_2 < (l0_0.length : Int)
         · rw [if_pos c10] at H
           have c10b0 : decide (x3_2 < (l0_0.length : Int)) = true := decide_eq_true c10
           clear c10
           by_cases c11 : 0 ≤ x3_2
           · rw [if_pos c11] at H
             have c11b0 : decide (0 ≤ x3_2) = true := decide_eq_true c11
             clear c11
             replace H := Option.bind_eq_some_iff.mp H
             obtain ⟨t105, A120, H⟩ := H
             replace H : (if t105 = true then (Qax.l0 k2 (wrap64 (x3_2 + 1)) l0_0) else (some false)) = some r := H
             have A12 := Aside0.mk A120
             clear A120
             by_cases c13 : t105 = true
             · subst c13
               have H1 : (Qax.l0 k2 (wrap64 (x3_2 + 1)) l0_0) = some r := by rw [if_pos rfl] at H; exact H
               clear H
               have H := H1
               clear H1
               have H' := Aside0.mk H
               clear H
               have hcz14_0 : wr.cell? ⟨gb101, 0, none⟩ = some (.slice A0_0 l0_0.length c0_0) := (Qab BK101.out 0).trans rfl
               have hfz14_0 := Qad BK101.out 0
               try go_wp2
               have n0_ := Aside0.mk (Qa2 BK101.out)
               have n1_ := Aside0.mk (Qa7 HB.out)
               clear BK101
               clear HB
               have BK101 := n0_
               have HB := n1_
               clear n0_ n1_
               have p104 : 0 ≤ (x3_2 : Int) := of_decide_eq_true (by first | (with_reducible assumption) | assumption)
               have q104 : x3_2 < (l0_0.length : Int) := of_decide_eq_true (by first | (with_reducible assumption) | assumption)
               obtain ⟨ad104, A104_2, c104_2, e104, hx104_0, hx104_1, hx104_2, hl104_2, hi104_2⟩ := Qbh HR0_0.out x3_2 p104 q104
               have hw104_2 := hx104_2
               have hw104_1 := hx104_1
               have hw104_0 := hx104_0
               cases e104
               replace hx104_0 := pc_ HB hx104_0
               replace hx104_1 := pc_ HB hx104_1
               replace hx104_2 := pc_ HB hx104_2
               have HR104_2 := Aside0.mk hi104_2
               have HC104_2 := Aside0.mk hl104_2
               clear hi104_2 hl104_2
               replace p104 := eq_true p104
               replace q104 := eq_true q104
               refine QbP (n := 8) (S := fun w' => w'.cell? ⟨gb101, 0, none⟩ = some (.slice (some ad104) l0_0.length c0_0) ∧ w'.cell? (ad104.add ((x3_2).toNat * 3)) = some (.int .i64 ((Qae l0_0 x3_2).f0)) ∧ w'.cell? ⟨(ad104.add ((x3_2).toNat * 3)).block, (ad104.add ((x3_2).toNat * 3)).off + 1, none⟩ = some (.int .i64 ((Qae l0_0 x3_2).f1)) ∧ w'.cell? ⟨(ad104.add ((x3_2).toNat * 3)).block, (ad104.add ((x3_2).toNat * 3)).off + 2, none⟩ = some (.slice A104_2 ((Qae l0_0 x3_2).f2).length c104_2)) (ds := []) #[false, false, false, false, false, false, false, false] (by kernel_rfl) rfl rfl ⟨(Qab BK101.out 0).trans rfl, (pc_ HB hw104_0), (pc_ HB hw104_1), (pc_ HB hw104_2)⟩ (fun hHeld => ?_); refine Qbz Qax.tab6 Qax.bits6 (fun HT_ HW_ => ?_)
               generalize wr.drew = w15 at BK101 HB HR104_2 hx104_0 hx104_1 hx104_2 hHeld ⊢
               refine pu_ 1 (some 25) #[false, true, false, false, false, false, false, false] rfl rfl ?_
               refine pu_ 3 (some 27) #[false, true, false, true, false, false, false, false] rfl rfl ?_
               refine tk_ 0 (some 24) #[true, true, false, true, false, false, false, false] rfl rfl hHeld ?_
               refine tk_ 2 (some 26) #[true, true, true, true, false, false, false, false] rfl rfl hHeld ?_
               refine pu_ 4 (some 28) #[true, true, true, true, true, false, false, false] rfl rfl ?_
               refine tk_ 5 (some 29) #[true, true, true, true, true, true, false, false] rfl rfl hHeld ?_
               refine Qcx (i := 6) (N := some 30) #[true, true, true, true, true, true, true, false] rfl rfl (Qb2 HT_.out (by kernel_rfl)) (by decide) (fun K hK => ?_)
               refine QbL Try.func102 (by kernel_rfl) rfl #[.agg #[.slice (some ad104) l0_0.length c0_0], .agg #[.int .i64 ((Qae l0_0 x3_2).f0), .int .i64 ((Qae l0_0 x3_2).f1), .slice A104_2 ((Qae l0_0 x3_2).f2).length c104_2]] (by rfl) rfl rfl (by (try simp only [List.map_toArray, List.map_cons, List.map_nil]); first | done | rfl | (simp only [List.length_drop, List.length_take]; rfl)) ?_
               with_reducible refine (Qap.calls k2 _ _ l0_0 ((Qae l0_0 x3_2).f0) ((Qae l0_0 x3_2).f1) _ _ ((Qae l0_0 x3_2).f2) true _ ?side1 ?side2 ?side3 ?side4 A12.out).mono ?_
               (case side1 => exact cb_)
               (case side2 => exact HC0_0.out)
               (case side3 => exact cb_)
               (case side4 => exact HC104_2.out)
               rintro e w16 ⟨rfl, hb⟩
               refine ⟨_, rfl, ?_⟩
               have n0_ := Aside0.mk (bb_ BK101 hb)
               have n1_ := Aside0.mk (Qac (bw_) hb)
               clear BK101
               clear HB
               have BK101 := n0_
               have HB := n1_
               clear n0_ n1_
               (try clear hb)
               (try clear hb2)
               (try clear hk)
               (try clear hi)
               refine hK.out _ _ ⟨(Qab BK101.out 0).trans rfl, (pc_ HB hw104_0), (pc_ HB hw104_1), (pc_ HB hw104_2)⟩ (fun hHeld => ?_)
               clear hK K
               refine QbK (a' := ?_) ?_ ?_
               rotate_left
               · show Act.put _ (some 30) _ = _
                 simp only [Act.put, List.setIfInBounds_toArray, List.set_cons_zero, List.set_cons_succ, QbA, QbB]
                 rfl
               refine pu_ 7 (some 31) #[true, true, true, true, true, true, true, true] rfl rfl ?_
               refine Qcc (QbS HT_.out (by kernel_rfl)) ?_
               try go_wp2
               go_roundg k2
               case measure => have := HJ1.out; have := HK2.out; omega
               case rel => exact ⟨(wrap64 (x3_2 + 1)), (by first | rfl | (simp; done) | (simp [*]; done)), H', ⟨by have := HJ1.out; have := HK2.out; omega⟩, ⟨by (refine kb_ ?_); exact BK101.out⟩, ⟨bw_⟩⟩
             · replace c13 := Bool.eq_false_iff.mpr c13
               subst c13
               have H1 : (some false) = some r := by rw [if_neg (show ¬ (false = true) by decide)] at H; exact H
               clear H
               have H := H1
               clear H1
               obtain rfl := Option.some.inj H
               have hcz17_0 : wr.cell? ⟨gb101, 0, none⟩ = some (.slice A0_0 l0_0.length c0_0) := (Qab BK101.out 0).trans rfl
               have hfz17_0 := Qad BK101.out 0
               try go_wp2
               have n0_ := Aside0.mk (Qa2 BK101.out)
               have n1_ := Aside0.mk (Qa7 HB.out)
               clear BK101
               clear HB
               have BK101 := n0_
               have HB := n1_
               clear n0_ n1_
               have p104 : 0 ≤ (x3_2 : Int) := of_decide_eq_true (by first | (with_reducible assumption) | assumption)
               have q104 : x3_2 < (l0_0.length : Int) := of_decide_eq_true (by first | (with_reducible assumption) | assumption)
               obtain ⟨ad104, A104_2, c104_2, e104, hx104_0, hx104_1, hx104_2, hl104_2, hi104_2⟩ := Qbh HR0_0.out x3_2 p104 q104
               have hw104_2 := hx104_2
               have hw104_1 := hx104_1
               have hw104_0 := hx104_0
               cases e104
               replace hx104_0 := pc_ HB hx104_0
               replace hx104_1 := pc_ HB hx104_1
               replace hx104_2 := pc_ HB hx104_2
               have HR104_2 := Aside0.mk hi104_2
               have HC104_2 := Aside0.mk hl104_2
               clear hi104_2 hl104_2
               replace p104 := eq_true p104
               replace q104 := eq_true q104
               refine QbP (n := 8) (S := fun w' => w'.cell? ⟨gb101, 0, none⟩ = some (.slice (some ad104) l0_0.length c0_0) ∧ w'.cell? (ad104.add ((x3_2).toNat * 3)) = some (.int .i64 ((Qae l0_0 x3_2).f0)) ∧ w'.cell? ⟨(ad104.add ((x3_2).toNat * 3)).block, (ad104.add ((x3_2).toNat * 3)).off + 1, none⟩ = some (.int .i64 ((Qae l0_0 x3_2).f1)) ∧ w'.cell? ⟨(ad104.add ((x3_2).toNat * 3)).block, (ad104.add ((x3_2).toNat * 3)).off + 2, none⟩ = some (.slice A104_2 ((Qae l0_0 x3_2).f2).length c104_2)) (ds := []) #[false, false, false, false, false, false, false, false] (by kernel_rfl) rfl rfl ⟨(Qab BK101.out 0).trans rfl, (pc_ HB hw104_0), (pc_ HB hw104_1), (pc_ HB hw104_2)⟩ (fun hHeld => ?_); refine Qbz Qax.tab6 Qax.bits6 (fun HT_ HW_ => ?_)
               generalize wr.drew = w18 at BK101 HB HR104_2 hx104_0 hx104_1 hx104_2 hHeld ⊢
               refine pu_ 1 (some 25) #[false, true, false, false, false, false, false, false] rfl rfl ?_
               refine pu_ 3 (some 27) #[false, true, false, true, false, false, false, false] rfl rfl ?_
               refine tk_ 0 (some 24) #[true, true, false, true, false, false, false, false] rfl rfl hHeld ?_
               refine tk_ 2 (some 26) #[true, true, true, true, false, false, false, false] rfl rfl hHeld ?_
               refine pu_ 4 (some 28) #[true, true, true, true, true, false, false, false] rfl rfl ?_
               refine tk_ 5 (some 29) #[true, true, true, true, true, true, false, false] rfl rfl hHeld ?_
               refine Qcx (i := 6) (N := some 30) #[true, true, true, true, true, true, true, false] rfl rfl (Qb2 HT_.out (by kernel_rfl)) (by decide) (fun K hK => ?_)
               refine QbL Try.func102 (by kernel_rfl) rfl #[.agg #[.slice (some ad104) l0_0.length c0_0], .agg #[.int .i64 ((Qae l0_0 x3_2).f0), .int .i64 ((Qae l0_0 x3_2).f1), .slice A104_2 ((Qae l0_0 x3_2).f2).length c104_2]] (by rfl) rfl rfl (by (try simp only [List.map_toArray, List.map_cons, List.map_nil]); first | done | rfl | (simp only [List.length_drop, List.length_take]; rfl)) ?_
               with_reducible refine (Qap.calls k2 _ _ l0_0 ((Qae l0_0 x3_2).f0) ((Qae l0_0 x3_2).f1) _ _ ((Qae l0_0 x3_2).f2) false _ ?side1 ?side2 ?side3 ?side4 A12.out).mono ?_
               (case side1 => exact cb_)
               (case side2 => exact HC0_0.out)
               (case side3 => exact cb_)
               (case side4 => exact HC104_2.out)
               rintro e w19 ⟨rfl, hb⟩
               refine ⟨_, rfl, ?_⟩
               have n0_ := Aside0.mk (bb_ BK101 hb)
               have n1_ := Aside0.mk (Qac (bw_) hb)
               clear BK101
               clear HB
               have BK101 := n0_
               have HB := n1_
               clear n0_ n1_
               (try clear hb)
               (try clear hb2)
               (try clear hk)
               (try clear hi)
               refine hK.out _ _ ⟨(Qab BK101.out 0).trans rfl, (pc_ HB hw104_0), (pc_ HB hw104_1), (pc_ HB hw104_2)⟩ (fun hHeld => ?_)
               clear hK K
               refine QbK (a' := ?_) ?_ ?_
               rotate_left
               · show Act.put _ (some 30) _ = _
                 simp only [Act.put, List.setIfInBounds_toArray, List.set_cons_zero, List.set_cons_succ, QbA, QbB]
                 rfl
               refine pu_ 7 (some 31) #[true, true, true, true, true, true, true, true] rfl rfl ?_
               refine Qcc (QbS HT_.out (by kernel_rfl)) ?_
               try go_wp2
               go_ret
               exact ⟨by first | rfl | (simp [Qaf, Qag] <;> rfl) | (simp [*, Qaf, Qag] <;> rfl), bw_⟩
           · rw [if_neg c11] at H
             exact absurd H (by simp)
         · rw [if_neg c10] at H
           have c10b0 : decide (x3_2 < (l0_0.length : Int)) = false := decide_eq_false c10
           clear c10
           obtain rfl := Option.some.inj H
           have hcz20_0 : wr.cell? ⟨gb101, 0, none⟩ = some (.slice A0_0 l0_0.length c0_0) := (Qab BK101.out 0).trans rfl
           have hfz20_0 := Qad BK101.out 0
           go_wp2
           go_ret
           exact ⟨by first | rfl | (simp [Qaf, Qag] <;> rfl) | (simp [*, Qaf, Qag] <;> rfl), bw_⟩
end Go.Proofs.Ytabcijheemjplaa.G
