import Derived.Test.YtcllkemhlhbdgaaK5784264a
import Derived.Test.YtcllkemhlhbdgaaK6a769fcb
import Derived.Test.YtcllkemhlhbdgaaK8a700253
import Derived.Shelf.Abstract
import Derived.Test.YtcllkemhlhbdgaaKae4ae254
import Derived.Test.YtcllkemhlhbdgaaKf6c88e94
import Derived.Test.YtcllkemhlhbdgaaK7f20f903
namespace Go.Proofs.Ytcllkemhlhbdgaa.G
open Go.RowKit Go.Proofs.YtcllkemhlhbdgaaW.PrintWords Go.Proofs.YtcllkemhlhbdgaaW.PrintLast Go.Proofs.YtcllkemhlhbdgaaW.PrintMore
attribute [local go_sem] max2_int min2_int max_two min_two max_three min_three max_four min_four
set_option linter.unusedVariables false
set_option linter.unusedSimpArgs false
set_option maxHeartbeats 2000000 in
theorem any_any (g : Nat) (s : List Int) (p : Int) (w0 w : World) (hI : IsS151 w0 w g s p) (hB : Below w0.heap.size w0 w) (hc : CodeOk s p) (hp : p ≤ 800000000) :
    Calls Try.prog 69 #[.pointer (some ⟨g, 0, none⟩)] w fun e w' => ∃ A c l p', e = .returned (.agg #[.slice A l.length c]) ∧ DrawnR w.heap.size w'.heap.size A c l w' ∧ IsS151 w0 w' g s p' ∧ Below w0.heap.size w0 w' ∧ KeepBut w w' g none ∧ (p ≤ p' ∧ p' ≤ p + 3000) := by
  have D0 := Aside0.mk ((DrSt.new hI hB).alloc (.cells #[.slice none 0 0] 46))
  have hg := hI.lt
  clear hI hB
  go_enter Try.func69, Try.ntmps69
  go_upto_if 8 with (first | (go_at_call 71; refine (prog_any g s p w0 _ D0.out.st D0.out.bel hc (by omega)).mono ?_; rintro e W1 ⟨A, c, l, p1, rfl, hD, hS1, hB1, hK1, hok, hne, hl2, hp1, hp2⟩; have D1 := Aside0.mk ((D0.out.call hS1 hB1 hK1).alloc (.cells #[.slice A l.length c] 46)); have hs1 := hK1.1; have b2 := (hK1.blk (heap_alloc_new _ _) (Nat.ne_of_gt hg) (by simp)); have PR := Aside0.mk (⟨hD.alloc (Nat.le_refl _) _, hok, hne, hl2⟩ : DrawnR _ _ A c l (W1.alloc (.cells #[.slice A l.length c] 46)) ∧ _ ∧ _ ∧ _); simp only [World.size_alloc] at hs1; clear hS1 hB1 hK1 hD hok hne hl2) | (go_at_call 70; refine (pick_any g s p1 _ w0 _ D1.out.st D1.out.bel (hc.to hp1) (by omega)).mono ?_; rintro e W2 ⟨r, rfl, ⟨hr0, hr1⟩, hS1, hB1, hK1⟩; have D2 := Aside0.mk (D1.out.call hS1 hB1 hK1); have c3 := hK1.blk (heap_alloc_new W1 _) (by omega) (by simp); have c2 := hK1.blk ((Below.heap_alloc _ _ _ (by omega)).trans b2) (Nat.ne_of_gt hg) (by simp); have HD := Aside0.mk (PR.out.1.keep (by simp) (by simp; omega) hK1); have hs2 := hK1.1; simp only [World.size_alloc] at hs2; clear hS1 hB1 hK1 b2))
  have z3 := (blk_cell c3 0).trans rfl
  have z2 := (blk_cell c2 0).trans rfl
  have f2 := blk_frozen c2 0
  have C2 := Aside0.mk c2
  clear c2 c3
  by_cases r0 : r = 0
  · subst r0
    go_wp2_with (go_at_call 72; refine (l71Bent_any g s (p1 + 1) A c l w0 _ D2.out.st D2.out.bel (hc.to (by omega)) (by omega) HD.out.now (by have := HD.out.few; omega) (by have := PR.out.2.2.2; omega) (fun m hm => ⟨PR.out.2.2.1 m hm, HD.out.ops m hm⟩)).mono ?_; rintro e W3 ⟨A', c', l', p', rfl, hl', hC', hS1, hB1, hK1, hlen, hops, hp3, hp4⟩; have D3 := Aside0.mk (D2.out.call hS1 hB1 hK1); have d2 := hK1.blk C2.out (Nat.ne_of_gt hg) (by simp); have HD3 := Aside0.mk ((⟨hl', hC', by have := (progOkB_few PR.out.2.1).1; omega, hops⟩ : DrawnR W2.heap.size W3.heap.size A' c' l' W3).set_ (b := w.heap.size) (j := 0) (.inl (by omega)) (.slice A' l'.length c')); have hs3 := hK1.1; have y2 := (blk_cell d2 0).trans rfl; have g2 := blk_frozen d2 0; have E2 := Aside0.mk d2; clear hS1 hB1 hK1 d2)
    refine bodyPost_ret (results_cell_row rfl _ _ w.heap.size 46 #[.slice A' l'.length c'] (0, 0) _ rfl (by simpa using blk_set E2.out 0 (.slice A' l'.length c')) Try.underlying46 rfl (by kernel_rfl)) rfl ?_
    have DE := D3.out.set_ (b := w.heap.size) (j := 0) (Nat.le_refl _) (.slice A' l'.length c')
    exact ⟨A', c', l', p', rfl, HD3.out.move (by omega) (by simp) (fun _ _ _ => rfl), DE.st, DE.bel, DE.keep, by omega, by omega⟩
  · have hne : (r == 0) = false := beq_eq_false_iff_ne.mpr r0
    clear r0
    go_wp2
    refine bodyPost_ret (results_cell_row rfl _ _ w.heap.size 46 #[.slice A l.length c] (0, 0) _ rfl (by simpa using blk_set C2.out 0 (.slice A l.length c)) Try.underlying46 rfl (by kernel_rfl)) rfl ?_
    have DE := D2.out.set_ (b := w.heap.size) (j := 0) (Nat.le_refl _) (.slice A l.length c)
    exact ⟨A, c, l, p1 + 1, rfl, (HD.out.set_ (b := w.heap.size) (j := 0) (.inl (by simp)) (.slice A l.length c)).move (by simp) (by simp; omega) (fun _ _ _ => rfl), DE.st, DE.bel, DE.keep, by omega, by omega⟩
end Go.Proofs.Ytcllkemhlhbdgaa.G
namespace Go.Proofs.Ytcllkemhlhbdgaa.G
open Go.RowKit Go.Proofs.YtcllkemhlhbdgaaW.PrintWords Go.Proofs.YtcllkemhlhbdgaaW.PrintLast Go.Proofs.YtcllkemhlhbdgaaW.PrintMore
attribute [local go_sem] max2_int min2_int max_two min_two max_three min_three max_four min_four
set_option linter.unusedVariables false
set_option linter.unusedSimpArgs false
set_option maxHeartbeats 2000000 in
theorem drawOpTakes_any (A0 : Option Addr) (c0 : Nat) (l0 : List Int) (w : World) (hr0 : Kd.C (Kd.int .u8) w A0 l0.length l0) (hc0 : l0.length ≤ c0) (hl : l0.length ≤ 1048576) (hb : ∀ x, x ∈ l0 → 0 ≤ x ∧ x ≤ 255) :
    Calls Try.prog 28 #[.slice A0 l0.length c0] w fun e w' => ∃ A c l k a, e = .returned (.tuple #[.agg #[.slice A l.length c], .agg #[.int .i64 k, .int .i64 a]]) ∧ DrawnR w.heap.size w'.heap.size A c l w' ∧ Below w.heap.size w w' := by
  have HR := Aside0.mk hr0
  have HB := Aside0.mk hb
  clear hr0 hb
  go_enter Try.func28, Try.ntmps28
  go_upto_region 2 with (go_at_call 68; refine (open_any A0 c0 l0 w _ (below_alloc (below_alloc (Below.refl _ _) _) _) HR.out hc0 hl HB.out).mono ?_; rintro e W1 ⟨g, s, rfl, hI, hB1, hB2, hc⟩; have I1 := Aside0.mk hI; have B1 := Aside0.mk hB1; have C1 := Aside0.mk hc; have b2 := (hB2.block w.heap.size (by simp only [World.size_alloc]; omega)).trans (heap_two0 _ _ _); have b3 := (hB2.block (w.heap.size + 1) (by simp only [World.size_alloc]; omega)).trans (heap_two1 _ _ _); have N2 := Aside0.mk (hI.ne_blk b2 (by decide)); have N3 := Aside0.mk (hI.ne_blk b3 (by decide)); have E2 := Aside0.mk b2; have E3 := Aside0.mk b3; have G1 := hI.lt; have hs1 := hB2.size; simp only [World.size_alloc] at hs1; clear hI hB1 hB2 hc b2 b3)
  have tok1 : True := trivial
  have tok2 : True := trivial
  have tok3 : True := trivial
  go_wp2_with (first | (go_at_call 69; (refine (any_any g s 0 w _ I1.out B1.out C1.out (by omega)).mono ?_; (rintro e W2 ⟨A, c, l, p1, rfl, hD, hS1, hB1, hK1, hp0, hp1⟩)); (have D2 := Aside0.mk (DrSt.call (DrSt.new I1.out B1.out) hS1 hB1 hK1)); (have HD := Aside0.mk hD); (have q1 := hK1.1); (have q2 := Nat.le_refl W2.heap.size); (have c2 := hK1.blk E2.out (Ne.symm N2.out) (by simp)); (have c3 := hK1.blk E3.out (Ne.symm N3.out) (by simp)); (clear E2 E3); (have E2 := Aside0.mk c2); (have E3 := Aside0.mk c3); (have z2 := (blk_cell E2.out 0).trans rfl); (have f2 := blk_frozen E2.out 0); (have z30 := (blk_cell E3.out 0).trans rfl); (have z31 := (blk_cell E3.out 1).trans rfl); (have f30 := blk_frozen E3.out 0); (have f31 := blk_frozen E3.out 1); (clear hD hS1 hB1 hK1 c2 c3)) | (go_at_call 70; have _t := tok1; clear _t tok1; (refine (pick_any g s _ _ w _ D2.out.st D2.out.bel (C1.out.to (by omega)) (by omega)).mono ?_); (rintro e W3 ⟨r1, rfl, -, hS1, hB1, hK1⟩); (have D3 := Aside0.mk (D2.out.call hS1 hB1 hK1)); (have HD3 := Aside0.mk (HD.out.keep q2 (by omega) hK1)); (have q3 := Nat.le_trans q2 hK1.1); (have c2 := hK1.blk E2.out (Ne.symm N2.out) (by simp)); (have c3 := hK1.blk E3.out (Ne.symm N3.out) (by simp)); (clear D2 HD q2 E2 E3 z2 f2 z30 z31 f30 f31); (have D2 := D3); (have HD := HD3); (have q2 := q3); (have E2 := Aside0.mk c2); (have E3 := Aside0.mk c3); (have z2 := (blk_cell E2.out 0).trans rfl); (have f2 := blk_frozen E2.out 0); (have z30 := (blk_cell E3.out 0).trans rfl); (have z31 := (blk_cell E3.out 1).trans rfl); (have f30 := blk_frozen E3.out 0); (have f31 := blk_frozen E3.out 1); (clear D3 HD3 q3 c2 c3 hS1 hB1 hK1)) | (go_at_call 70; have _t := tok2; clear _t tok2; (refine (pick_any g s _ _ w _ D2.out.st D2.out.bel (C1.out.to (by omega)) (by omega)).mono ?_); (rintro e W3 ⟨r2, rfl, -, hS1, hB1, hK1⟩); (have D3 := Aside0.mk (D2.out.call hS1 hB1 hK1)); (have HD3 := Aside0.mk (HD.out.keep q2 (by omega) hK1)); (have q3 := Nat.le_trans q2 hK1.1); (have c2 := hK1.blk E2.out (Ne.symm N2.out) (by simp)); (have c3 := hK1.blk E3.out (Ne.symm N3.out) (by simp)); (clear D2 HD q2 E2 E3 z2 f2 z30 z31 f30 f31); (have D2 := D3); (have HD := HD3); (have q2 := q3); (have E2 := Aside0.mk c2); (have E3 := Aside0.mk c3); (have z2 := (blk_cell E2.out 0).trans rfl); (have f2 := blk_frozen E2.out 0); (have z30 := (blk_cell E3.out 0).trans rfl); (have z31 := (blk_cell E3.out 1).trans rfl); (have f30 := blk_frozen E3.out 0); (have f31 := blk_frozen E3.out 1); (clear D3 HD3 q3 c2 c3 hS1 hB1 hK1)) | (go_at_call 70; have _t := tok3; clear _t tok3; (refine (pick_any g s _ _ w _ D2.out.st D2.out.bel (C1.out.to (by omega)) (by omega)).mono ?_); (rintro e W3 ⟨r3, rfl, -, hS1, hB1, hK1⟩); (have D3 := Aside0.mk (D2.out.call hS1 hB1 hK1)); (have HD3 := Aside0.mk (HD.out.keep q2 (by omega) hK1)); (have q3 := Nat.le_trans q2 hK1.1); (have c2 := hK1.blk E2.out (Ne.symm N2.out) (by simp)); (have c3 := hK1.blk E3.out (Ne.symm N3.out) (by simp)); (clear D2 HD q2 E2 E3 z2 f2 z30 z31 f30 f31); (have D2 := D3); (have HD := HD3); (have q2 := q3); (have E2 := Aside0.mk c2); (have E3 := Aside0.mk c3); (have z2 := (blk_cell E2.out 0).trans rfl); (have f2 := blk_frozen E2.out 0); (have z30 := (blk_cell E3.out 0).trans rfl); (have z31 := (blk_cell E3.out 1).trans rfl); (have f30 := blk_frozen E3.out 0); (have f31 := blk_frozen E3.out 1); (clear D3 HD3 q3 c2 c3 hS1 hB1 hK1)))
  have hx := blk_far (p := ⟨w.heap.size + 1, 1, none⟩) (blk_far (p := ⟨w.heap.size + 1, 0, none⟩) (blk_set E2.out 0 (.slice A l.length c)) (by simp) (.int .i64 r1)) (by simp)
  refine bodyPost_ret (results_cc rfl _ _ w.heap.size (w.heap.size + 1) 46 48 #[.slice A l.length c] #[.int .i64 r1, _] (0, 0) (0, 0) _ _ rfl (hx _) Try.underlying46 rfl (by kernel_rfl) rfl (by simpa using blk_set (blk_set (blk_far (p := ⟨w.heap.size, 0, none⟩) E3.out (by simp) (.slice A l.length c)) 0 (.int .i64 r1)) 1 _) Try.underlying48 rfl (by kernel_rfl)) rfl ?_
  exact ⟨A, c, l, r1, _, rfl, (((HD.out.set_ (b := w.heap.size) (j := 0) (.inl (by omega)) _).set_ (b := w.heap.size + 1) (j := 0) (.inl (by omega)) _).set_ (b := w.heap.size + 1) (j := 1) (.inl (by omega)) _).move (by omega) (by simp only [World.size_setCell]; exact q2) (fun _ _ _ => rfl), ((D2.out.bel.setCell (p := ⟨w.heap.size, 0, none⟩) (Nat.le_refl _) _).setCell (p := ⟨w.heap.size + 1, 0, none⟩) (Nat.le_succ _) _).setCell (p := ⟨w.heap.size + 1, 1, none⟩) (Nat.le_succ _) _⟩
end Go.Proofs.Ytcllkemhlhbdgaa.G
namespace Go.Proofs.Ytcllkemhlhbdgaa.G
open Go.RowKit Go.Proofs.YtcllkemhlhbdgaaW.PrintWords Go.Proofs.YtcllkemhlhbdgaaW.PrintLast Go.Proofs.YtcllkemhlhbdgaaW.PrintMore
attribute [local go_sem] max2_int min2_int max_two min_two max_three min_three max_four min_four
set_option linter.unusedVariables false
set_option linter.unusedSimpArgs false
theorem takes_of_call {l : List S_impl_Method} {a : Int} (h0 : 0 ≤ a) (h1 : a < (l.length : Int)) : takesB l 9 a = ((rd_impl_Method l a).f0, 1) := by
  unfold takesB
  rw [if_pos (by omega), if_pos rfl, if_pos ⟨h0, h1⟩]
theorem takes_small (l : List S_impl_Method) (k a : Int) (h : ¬ (k = 9 ∧ 0 ≤ a ∧ a < (l.length : Int))) : 0 ≤ (takesB l k a).1 ∧ (takesB l k a).1 ≤ 2 ∧ 0 ≤ (takesB l k a).2 ∧ (takesB l k a).2 ≤ 1 := by
  unfold takesB
  split
  · next hk =>
    split
    · next h9 =>
      rw [if_neg (fun h2 => h ⟨h9, h2⟩)]
      exact ⟨by decide, by decide, by decide, by decide⟩
    · obtain ⟨n, rfl⟩ := Int.eq_ofNat_of_zero_le (show 0 ≤ k by omega)
      rcases kinds18 (n := n) (by omega) (by omega) with rfl | rfl | rfl | rfl | rfl | rfl | rfl | rfl | rfl | rfl | rfl | rfl | rfl | rfl | rfl | rfl | rfl | rfl <;> exact ⟨by decide, by decide, by decide, by decide⟩
  · exact ⟨by decide, by decide, by decide, by decide⟩
theorem specOpTakes_any (A : Option Addr) (c : Nat) (l : List S_impl_Method) (k a : Int) (w : World) (hr : Kd.C k_impl_Method w A l.length l) (hc : l.length ≤ c) (hl : l.length ≤ 1048576) :
    Calls Try.prog 21 #[.agg #[.slice A l.length c], .agg #[.int .i64 k, .int .i64 a]] w fun e w' => e = .returned (.tuple #[.int .i64 (takesB l k a).1, .int .i64 (takesB l k a).2]) ∧ Below w.heap.size w w' := by
  obtain ⟨n, hn⟩ := (specOpTakes_tells l k a hl).rounds
  exact spec_OpTakes.calls n A c l k a _ _ w hr hc hn
theorem implOpTakes_any (A : Option Addr) (c : Nat) (l : List S_impl_Method) (k a : Int) (w : World) (hr : Kd.C k_impl_Method w A l.length l) (hc : l.length ≤ c) :
    Calls Try.prog 24 #[.agg #[.slice A l.length c], .agg #[.int .i64 k, .int .i64 a]] w fun e w' => e = .returned (.tuple #[.int .i64 (takesB l k a).1, .int .i64 (takesB l k a).2]) ∧ Below w.heap.size w w' :=
  impl_OpTakes.calls A c l k a _ _ w hr hc (implOpTakes_tells l k a)
set_option maxHeartbeats 4000000 in
theorem law_FnOpTakes (A0 : Option Addr) (c0 : Nat) (l0 : List Int) (w : World) (hr0 : Kd.C (Kd.int .u8) w A0 l0.length l0) (hc0 : l0.length ≤ c0) (hb : ∀ x, x ∈ l0 → 0 ≤ x ∧ x ≤ 255) :
    Calls Try.prog 7 #[.slice A0 l0.length c0] w fun e w' => e = .returned (.bool true) ∧ Below w.heap.size w w' := by
  have HR := Aside0.mk hr0
  have HB := Aside0.mk hb
  have hm := Kd.C_max hr0
  clear hr0 hb
  by_cases hl : (1048576 : Int) < (l0.length : Int)
  · go_enter Try.func7, Try.ntmps7
    go_wp2
    go_ret
    exact ⟨rfl, Below.refl _ _⟩
  · go_enter Try.func7, Try.ntmps7
    go_upto_region 4 with (go_at_call 28; refine (drawOpTakes_any A0 c0 l0 _ HR.out hc0 (by omega) HB.out).mono ?_; rintro e W1 ⟨A, c, l, k, a, rfl, hD, hB1⟩; have B1 := Aside0.mk (below_alloc (below_alloc hB1 (.cells #[.slice A l.length c] 46)) (.cells #[.int .i64 k, .int .i64 a] 48)); have D1 := Aside0.mk ((hD.alloc (Nat.le_refl _) (.cells #[.slice A l.length c] 46)).alloc (by simp) (.cells #[.int .i64 k, .int .i64 a] 48)); clear hD hB1)
    have b3 := heap_two0 W1 (.cells #[.slice A l.length c] 46) (.cells #[.int .i64 k, .int .i64 a] 48)
    have b4 := heap_two1 W1 (.cells #[.slice A l.length c] 46) (.cells #[.int .i64 k, .int .i64 a] 48)
    have hsz : W1.heap.size + 1 < ((W1.alloc (.cells #[.slice A l.length c] 46)).alloc (.cells #[.int .i64 k, .int .i64 a] 48)).heap.size := by simp
    generalize ((W1.alloc (.cells #[.slice A l.length c] 46)).alloc (.cells #[.int .i64 k, .int .i64 a] 48)) = W at *
    have K1 := Aside0.mk b3
    have K2 := Aside0.mk b4
    have z3 : W.cell? ⟨W1.heap.size, 0, none⟩ = some (.slice A l.length c) := (blk_cell b3 0).trans rfl
    have z_laws_Op : W.cell? ⟨W1.heap.size + 1, 0, none⟩ = some (.int .i64 k) := (blk_cell b4 0).trans rfl
    have z41 : W.cell? ⟨W1.heap.size + 1, 1, none⟩ = some (.int .i64 a) := (blk_cell b4 1).trans rfl
    have hfew := D1.out.few
    clear b3 b4
    go_upto_region 5 with (go_at_call 21; refine (specOpTakes_any A c l k a _ D1.out.now D1.out.cap (by omega)).mono ?_; rintro e W2 ⟨rfl, hB2⟩; have y3 := pw_cell_below hB2 z3; have y40 := pw_cell_below hB2 z_laws_Op; have y41 := pw_cell_below hB2 z41; have D2 := Aside0.mk (D1.out.move (w1 := W2) (Nat.le_refl _) (Nat.le_refl _) (fun i _ h => hB2.block i (by omega))); have B2 := Aside0.mk (below_then B1.out B1.out.size hB2); clear hB2 z3 z_laws_Op z41)
    go_upto_if 36 with (go_at_call 24; refine (implOpTakes_any A c l k a _ D2.out.now D2.out.cap).mono ?_; rintro e W3 ⟨rfl, hB3⟩; have x3 := pw_cell_below hB3 y3; have x40 := pw_cell_below hB3 y40; have x41 := pw_cell_below hB3 y41; have h5 : W1.heap.size < W2.heap.size := World.block_lt_of_cell? _ _ y3; have D3 := Aside0.mk (D2.out.move (w1 := W3) (Nat.le_refl _) (Nat.le_refl _) (fun i _ h => hB3.block i (Nat.lt_trans h h5))); clear h5; have B3 := Aside0.mk (below_then B2.out B2.out.size hB3); clear hB3 y3 y40 y41)
    clear hfew hsz
    have hsmall := takes_small l k a
    have hcall := fun h0 h1 => takes_of_call (l := l) (a := a) h0 h1
    generalize ht : takesB l k a = tk at *
    obtain ⟨t, u⟩ := tk
    by_cases h9 : k = 9 ∧ 0 ≤ a ∧ a < (l.length : Int)
    · obtain ⟨rfl, h0, h1⟩ := h9
      have hc9 := hcall h0 h1
      rw [ht] at hc9
      simp only [Prod.mk.injEq] at hc9
      obtain ⟨rfl, rfl⟩ := hc9
      obtain ⟨ad, A2, c2, rfl, hx0, -⟩ := at_impl_Method D3.out.now a h0 h1
      clear hcall hsmall ht
      go_wp2
      go_ret
      exact ⟨by simp, B3.out⟩
    · obtain ⟨h0, h1, h2, h3⟩ := hsmall h9
      clear hcall ht
      have t0 : decide (0 ≤ t) = true := decide_eq_true h0
      have t1 : decide (t ≤ 2) = true := decide_eq_true h1
      have t2 : decide (0 ≤ u) = true := decide_eq_true h2
      have t3 : decide (u ≤ 1) = true := decide_eq_true h3
      by_cases k9 : k = 9
      · subst k9
        by_cases a0 : 0 ≤ a
        · have a1 : ¬ a < (l.length : Int) := fun h => h9 ⟨rfl, a0, h⟩
          clear h9 h0 h1 h2 h3
          go_wp2
          go_ret
          exact ⟨by simp [t0, t1, t2, t3], B3.out⟩
        · clear h9 h0 h1 h2 h3
          go_wp2
          go_ret
          exact ⟨by simp [t0, t1, t2, t3], B3.out⟩
      · have hk : (k == 9) = false := beq_eq_false_iff_ne.mpr k9
        clear h9 h0 h1 h2 h3 k9
        go_wp2
        go_ret
        exact ⟨by simp [t0, t1, t2, t3], B3.out⟩
end Go.Proofs.Ytcllkemhlhbdgaa.G
