import Derived.Test.YtcllkemhlhbdgaaK4cd14d52
import Derived.Test.YtcllkemhlhbdgaaK81585a46
import Derived.Test.YtcllkemhlhbdgaaKf8ef0521
import Derived.Test.YtcllkemhlhbdgaaK94de959c
import Derived.Shelf.Abstract
import Derived.IntWalk
import Derived.Test.YtcllkemhlhbdgaaK7fbbde11
import Derived.Test.YtcllkemhlhbdgaaK3c2a51a2
namespace Go.Proofs.Ytcllkemhlhbdgaa.G
open Go.RowKit Go.Proofs.YtcllkemhlhbdgaaW.PrintWords Go.Proofs.YtcllkemhlhbdgaaW.PrintLast Go.Proofs.YtcllkemhlhbdgaaW.PrintMore
attribute [local go_sem] QaV QaW Qa8 Qa9 QaM QaN QaX QaY
set_option linter.unusedVariables false
set_option linter.unusedSimpArgs false
set_option maxHeartbeats 4000000 in
theorem drawDeepAt_any (A0 : Option Addr) (c0 : Nat) (l0 : List Int) (w : World) (hr0 : Kd.C (Kd.int .u8) w A0 l0.length l0) (hc0 : l0.length ≤ c0) (hl : l0.length ≤ 1048576) (hb : ∀ x, x ∈ l0 → 0 ≤ x ∧ x ≤ 255) :
 Calls Try.prog 47 #[.slice A0 l0.length c0] w fun e w' => ∃ A c l k, e = .returned (.tuple #[.agg #[.slice A l.length c], .int .i64 k]) ∧ QbS w.heap.size w'.heap.size A c l w' ∧ Below w.heap.size w w' ∧ -10 ≤ k ∧ k ≤ 100 := by
 have HR := Aside0.mk hr0
 have HB := Aside0.mk hb
 clear hr0 hb
 go_enter Try.func47, Try.ntmps47
 go_upto_if 12 with (first | (go_at_call 68; refine (open_any A0 c0 l0 w _ (Qak (Below.refl _ _) _) HR.out hc0 hl HB.out).mono ?_; rintro e W1 ⟨g, s, rfl, hI, hB1, hB2, hc⟩; have I1 := Aside0.mk hI; have B1 := Aside0.mk hB1; have C1 := Aside0.mk hc; have b2 := (hB2.block w.heap.size (by simp)).trans (heap_alloc_new _ _); have N2 := Aside0.mk (hI.ne_blk b2 (by decide)); have B2 := Aside0.mk b2; have G1 := hI.lt; have hs1 := hB2.size; simp only [World.size_alloc] at hs1; clear hI hB1 hB2 hc b2) | (go_at_call 71; refine (prog_any g s 0 w _ I1.out B1.out C1.out (by omega)).mono ?_; rintro e W2 ⟨A, c, l, p1, rfl, hD, hS1, hB1, hK1, hok, hne, hl2, hp1, hp2⟩; have D2 := Aside0.mk ((DrSt.call (DrSt.new I1.out B1.out) hS1 hB1 hK1).alloc (.cells #[.slice A l.length c] 46)); have hs2 := hK1.1; have b2 := hK1.blk B2.out (Ne.symm N2.out) (by simp); have PR := Aside0.mk (⟨hD.alloc (Nat.le_refl _) _, hok, hne, hl2⟩ : QbS _ _ A c l (W2.alloc (.cells #[.slice A l.length c] 46)) ∧ _ ∧ _ ∧ _); clear hS1 hB1 hK1 hD hok hne hl2) | (go_at_call 70; refine (Qb5 g s p1 _ w _ D2.out.st D2.out.bel (C1.out.to hp1) (by omega)).mono ?_; rintro e W3 ⟨r, rfl, ⟨hr0, hr1⟩, hS1, hB1, hK1⟩; have D3 := Aside0.mk (D2.out.call hS1 hB1 hK1); have c3 := hK1.blk (heap_alloc_new W2 _) (by omega) (by simp); have c2 := hK1.blk ((Below.heap_alloc _ _ _ (by omega)).trans b2) (Ne.symm N2.out) (by simp); have HD := Aside0.mk (PR.out.1.keep (by simp) (by omega) hK1); have hs3 := hK1.1; simp only [World.size_alloc] at hs3; clear hS1 hB1 hK1 b2))
 have z3 := (Qaf c3 0).trans rfl
 have f3 := Qaj c3 0
 have E2 := Aside0.mk c2
 have E3 := Aside0.mk c3
 clear c2 c3
 go_cut [] (fun wc => ∃ (A' : Option Addr) (c' : Nat) (l' : List Qae) (p' : Int) (hi : Nat), Aside0 (DrSt w W1 wc g s p') ∧ Aside0 (QbS W1.heap.size hi A' c' l' wc) ∧ Aside0 (hi ≤ wc.heap.size ∧ W2.heap.size < wc.heap.size) ∧ Aside0 (0 ≤ p' ∧ p' ≤ 10000) ∧ Aside0 (wc.heap[w.heap.size]? = some (.cells #[.slice none 0 0] 46 (0, 0))) ∧ Aside0 (wc.heap[W2.heap.size]? = some (.cells #[.slice A' l'.length c'] 46 (0, 0))))
 case first =>
  by_cases r0 : r = 0
  · subst r0
    go_wp2_with (go_at_call 72; refine (l71Bent_any g s (p1 + 1) A c l w _ D3.out.st D3.out.bel (C1.out.to (by omega)) (by omega) HD.out.now (by have := HD.out.few; omega) (by have := PR.out.2.2.2; omega) (fun m hm => ⟨PR.out.2.2.1 m hm, HD.out.ops m hm⟩)).mono ?_; rintro e W4 ⟨A', c', l', p', rfl, hl', hC', hS1, hB1, hK1, hlen, hops, hp3, hp4⟩; have D4 := Aside0.mk (D3.out.call hS1 hB1 hK1); have d2 := hK1.blk E2.out (Ne.symm N2.out) (by simp); have d3 := hK1.blk E3.out (by omega) (by simp); have HD4 := Aside0.mk (⟨hl', hC', by have := (progOkB_few PR.out.2.1).1; omega, hops⟩ : QbS W3.heap.size W4.heap.size A' c' l' W4); have hs4 := hK1.1; have y3 := (Qaf d3 0).trans rfl; have g3 := Qaj d3 0; have F2 := Aside0.mk d2; have F3 := Aside0.mk d3; clear hS1 hB1 hK1 hC' d2 d3)
    go_meet
    refine ⟨A', c', l', p', W4.heap.size, ⟨D4.out.set_ (by omega) _⟩, ⟨(HD4.out.set_ (b := W2.heap.size) (j := 0) (.inl (by omega)) _).move (by omega) (Nat.le_refl _) (fun _ _ _ => rfl)⟩, ⟨by simp, by simp; omega⟩, ⟨by omega, by omega⟩, ⟨(Qa5 (by show w.heap.size ≠ W2.heap.size; omega)).trans F2.out⟩, ⟨by simpa using QbU F3.out 0 (.slice A' l'.length c')⟩⟩
  · have hne : (r == 0) = false := beq_eq_false_iff_ne.mpr r0
    clear r0
    go_wp2
    go_meet
    exact ⟨A, c, l, p1 + 1, W2.heap.size, D3, HD, ⟨by omega, by omega⟩, ⟨by omega, by omega⟩, E2, E3⟩
 case rest =>
  obtain ⟨A', c', l', p', hi, D, HD, HI, PB, E2, E3⟩ := hcut
  have y3 := (Qaf E3.out 0).trans rfl
  have y2 := (Qaf E2.out 0).trans rfl
  have f2 := Qaj E2.out 0
  have hlen := HD.out.few
  have tok1 : True := trivial
  have tok2 : True := trivial
  have n3 : W2.heap.size ≠ g := by omega
  have nb : w.heap.size ≠ W2.heap.size := by omega
  clear z3 f3
  have hpb := PB.out
  go_wp2
  go_region_held3 (fun W' : World => W'.cell? ⟨W2.heap.size, 0, none⟩ = some (.slice A' l'.length c') ∧ True) (go_keep) ((first | (go_at_call 70; have _t := tok1; clear _t tok1; refine (Qb5 g s p' _ w _ (D.out.drewN _).st (D.out.drewN _).bel (C1.out.to hpb.1) (by omega)).mono ?_; rintro e W4 ⟨x, rfl, ⟨hx0, hx1⟩, hS1, hB1, hK1⟩; have D4 := Aside0.mk ((D.out.drewN _).call hS1 hB1 hK1); have y4 := Qbn hK1 n3 y3; have y2' := Qbn hK1 (Ne.symm N2.out) y2; have f2' := QbK hK1 (Ne.symm N2.out) y2 f2; have K4 := Aside0.mk hK1; clear hS1 hB1 hK1) | (go_at_call 70; have _t := tok2; clear _t tok2; refine (Qb5 g s (p' + 1) _ w _ D4.out.st D4.out.bel (C1.out.to (by omega)) (by omega)).mono ?_; rintro e W5 ⟨z, rfl, ⟨hz0, hz1⟩, hS1, hB1, hK1⟩; have D5 := Aside0.mk (D4.out.call hS1 hB1 hK1); have y5 := Qbn hK1 n3 y4; have y2'' := Qbn hK1 (Ne.symm N2.out) y2'; have f2'' := QbK hK1 (Ne.symm N2.out) y2' f2'; have K5 := Aside0.mk hK1; clear hS1 hB1 hK1)))
  go_wp2
  have s4 := K4.out.1
  have s5 := K5.out.1
  refine bodyPost_ret (Qci rfl _ _ w.heap.size 46 #[.slice A' l'.length c'] (0, 0) _ rfl (by simpa using QbU (K5.out.blk (K4.out.blk E2.out (Ne.symm N2.out) (by simp)) (Ne.symm N2.out) (by simp)) 0 (.slice A' l'.length c')) Try.underlying46 rfl (by kernel_rfl)) rfl ?_
  have e1 : IntKind.i64.wrap ((l'.length : Int) + 1) = (l'.length : Int) + 1 := IntWalk.i64_in _ (by omega)
  rw [e1] at hx1
  have hx2 := hx1 (by omega)
  have hz2 := hz1 (by omega)
  have t0 : 0 ≤ Int.tdiv z 8 := Int.tdiv_nonneg hz0 (by omega)
  have t1 : Int.tdiv z 8 ≤ z := Int.tdiv_le_self _ hz0
  refine ⟨A', c', l', _, rfl, (((HD.out.move (Nat.le_refl _) (Nat.le_refl _) (fun _ _ _ => rfl)).keep (by have := HI.out.1; show hi ≤ wc.heap.size; omega) G1 K4.out).keep (by have := HI.out.1; have := s4; simp at this; omega) G1 K5.out |>.set_ (b := w.heap.size) (j := 0) (.inl (by omega)) _).move (by omega) (by have := HI.out.1; simp at s4; simp; omega) (fun _ _ _ => rfl), D5.out.bel.setCell (p := ⟨w.heap.size, 0, none⟩) (Nat.le_refl _) _, ?_, ?_⟩
  · rw [IntWalk.i64_in (Int.tdiv z 8) (by omega), IntWalk.i64_in _ (by omega)]
    omega
  · rw [IntWalk.i64_in (Int.tdiv z 8) (by omega), IntWalk.i64_in _ (by omega)]
    omega
end Go.Proofs.Ytcllkemhlhbdgaa.G
namespace Go.Proofs.Ytcllkemhlhbdgaa.G
open Go.RowKit Go.Proofs.YtcllkemhlhbdgaaW.PrintWords Go.Proofs.YtcllkemhlhbdgaaW.PrintLast Go.Proofs.YtcllkemhlhbdgaaW.PrintMore
attribute [local go_sem] QaV QaW Qa8 Qa9 QaM QaN QaX QaY
set_option linter.unusedVariables false
set_option linter.unusedSimpArgs false
theorem implOpTakes_any (A : Option Addr) (c : Nat) (l : List Qae) (k a : Int) (w : World) (hr : Kd.C QaL w A l.length l) (hc : l.length ≤ c) :
 Calls Try.prog 24 #[.agg #[.slice A l.length c], .agg #[.int .i64 k, .int .i64 a]] w fun e w' => e = .returned (.tuple #[.int .i64 (QbA l k a).1, .int .i64 (QbA l k a).2]) ∧ Below w.heap.size w w' :=
 QbI.calls A c l k a _ _ w hr hc (Qcl l k a)
end Go.Proofs.Ytcllkemhlhbdgaa.G
namespace Go.Proofs.Ytcllkemhlhbdgaa.G
open Go.RowKit Go.Proofs.YtcllkemhlhbdgaaW.PrintWords Go.Proofs.YtcllkemhlhbdgaaW.PrintLast Go.Proofs.YtcllkemhlhbdgaaW.PrintMore
attribute [local go_sem] QaV QaW Qa8 Qa9 QaM QaN QaX QaY
set_option linter.unusedVariables false
set_option linter.unusedSimpArgs false
theorem implOpTakes_tu (A : Option Addr) (c : Nat) (l : List Qae) (k a t u : Int) (w : World) (hr : Kd.C QaL w A l.length l) (hc : l.length ≤ c) (h : QbA l k a = (t, u)) :
 Calls Try.prog 24 #[.agg #[.slice A l.length c], .agg #[.int .i64 k, .int .i64 a]] w fun e w' => e = .returned (.tuple #[.int .i64 t, .int .i64 u]) ∧ Below w.heap.size w w' := by
 have := implOpTakes_any A c l k a w hr hc
 rw [h] at this
 exact this
theorem at_step {l : List Qae} {ops : List Qac} {out : List Int} {most : Int} (hM : ∀ m ∈ l, 0 ≤ m.f0 ∧ m.f0 ≤ 2) (hI : DInv l ops out [] most) (hF : DFl l ops out []) (i : Nat) (hi : i < ops.length) (k a t u x : Int) (hk : (Qah ops i).f0 = k) (ha : (Qah ops i).f1 = a) (htu : QbA l k a = (t, u)) (hx : rd out i = x) (h0 : 0 ≤ x) :
 (x ≤ 6 ∧ t ≤ x ∧ 0 ≤ t ∧ 0 ≤ u ∧ u ≤ 1 ∧ x - t + u ≤ 6) ∧ (k = 7 ∨ k = 8 → 0 ≤ a ∧ a < (ops.length : Int) ∧ rd out a = x - t + u) ∧ (k ≠ 7 → k ≠ 10 → (i : Int) + 1 < (ops.length : Int) ∧ rd out ((i : Int) + 1) = x - t + u) := by
 have hr := takes_range hM k a
 rw [htu] at hr
 have h6 := (hI.rng i (by omega) (by omega)).2
 obtain ⟨hd, hn⟩ := (hF i (by omega) (by omega) (by omega)).resolve_left (by simp)
 have hD : dAt l ops out i = dB l k a x := by unfold dAt; rw [hk, ha, hx]
 rw [hD] at hd hn
 rw [hk, ha] at hn
 have hv : ¬ t > x ∧ ¬ x - t + u > 6 ∧ dB l k a x = x - t + u := by
  unfold dB at hd ⊢
  rw [htu] at hd ⊢
  simp only at hd ⊢
  split at hd
  · omega
  · split at hd
    · omega
    · next e1 e2 => exact ⟨e1, e2, by rw [if_neg e1, if_neg e2]⟩
 obtain ⟨v1, v2, v3⟩ := hv
 rw [v3] at hn
 unfold nB at hn
 refine ⟨⟨by omega, by omega, hr.1, hr.2.2.1, hr.2.2.2, by omega⟩, fun h => ?_, fun e7 e10 => ?_⟩
 · rcases h with rfl | rfl
   · exact hn a (by simp)
   · exact hn a (by simp)
 · rw [if_neg e10, if_neg e7] at hn
   split at hn
   · exact ⟨(hn ((i : Int) + 1) (by simp)).2.1, (hn ((i : Int) + 1) (by simp)).2.2⟩
   · exact ⟨(hn ((i : Int) + 1) (by simp)).2.1, (hn ((i : Int) + 1) (by simp)).2.2⟩
set_option maxHeartbeats 4000000 in
set_option maxRecDepth 100000 in
theorem law_FnDeepAt (A0 : Option Addr) (c0 : Nat) (l0 : List Int) (w : World) (hr0 : Kd.C (Kd.int .u8) w A0 l0.length l0) (hc0 : l0.length ≤ c0) (hb : ∀ x, x ∈ l0 → 0 ≤ x ∧ x ≤ 255) :
 Calls Try.prog 14 #[.slice A0 l0.length c0] w fun e w' => e = .returned (.bool true) ∧ Below w.heap.size w w' := by
 have HR := Aside0.mk hr0
 have HB := Aside0.mk hb
 have hm := Kd.C_max hr0
 clear hr0 hb
 by_cases hl : (1048576 : Int) < (l0.length : Int)
 · go_enter Try.func14, Try.ntmps14
   go_wp2
   go_ret
   exact ⟨rfl, Below.refl _ _⟩
 · go_enter Try.func14, Try.ntmps14
   go_upto_region 4 with (go_at_call 47; refine (drawDeepAt_any A0 c0 l0 _ HR.out hc0 (by omega) HB.out).mono ?_; rintro e W1 ⟨A, c, l, k, rfl, hD, hB1, hk0, hk1⟩; have B1 := Aside0.mk (Qak hB1 (.cells #[.slice A l.length c] 46)); have D1 := Aside0.mk (hD.alloc (Nat.le_refl _) (.cells #[.slice A l.length c] 46)); clear hD hB1)
   have b3 := heap_alloc_new W1 (.cells #[.slice A l.length c] 46)
   have hsz : W1.heap.size < (W1.alloc (.cells #[.slice A l.length c] 46)).heap.size := by simp
   generalize (W1.alloc (.cells #[.slice A l.length c] 46)) = W at *
   have z3 : W.cell? ⟨W1.heap.size, 0, none⟩ = some (.slice A l.length c) := (Qaf b3 0).trans rfl
   clear b3
   have hfl := drawn_few D1.out
   rcases deepAt_both l hfl k with ⟨hs, hi⟩ | ⟨out, most, hok, hk, hI, ⟨hF, hpos, hz0⟩, hs, hi⟩
   · have HS := Aside0.mk hs
     have HI := Aside0.mk hi
     clear hs hi hfl
     go_upto_region 5 with (go_at_call 41; refine (specDeepAt_any A c l k [] false _ D1.out.now D1.out.cap HS.out).mono ?_; rintro e W2 ⟨Aw, cw, rfl, -, hCw, hB2⟩; have y3 := QaT hB2 z3; have D2 := Aside0.mk (D1.out.move (w1 := W2) (Nat.le_refl _) (Nat.le_refl _) (fun i _ h => hB2.block i (by omega))); have B2 := Aside0.mk (Qbm B1.out B1.out.size hB2); have CW := Aside0.mk hCw; clear hB2 z3 hCw)
     go_upto_region 6 with (go_at_call 42; refine (implDeepAt_any A c l k [] 0 false _ D2.out.now D2.out.cap HI.out).mono ?_; rintro e W3 ⟨At, ct, rfl, -, hCt, hB3⟩; have B3 := Aside0.mk (Qbm B2.out B2.out.size hB3); have CW3 := Aside0.mk (Kd.C_below CW.out hB3); have CT := Aside0.mk hCt; clear hB3 hCt)
     go_upto_region 7 with (go_at_call 48; refine (lmInts_n _ _ _ _ _ _ [] rfl rfl (by simp) _ CT.out (Nat.zero_le _) CW3.out (Nat.zero_le _)).mono ?_; rintro e W4 ⟨rfl, hB4⟩; have B4 := Aside0.mk (Qbm B3.out B3.out.size hB4); have CW4 := Aside0.mk (Kd.C_below CW3.out hB4); have CT4 := Aside0.mk (Kd.C_below CT.out hB4); clear hB4)
     go_wp2_with (go_at_call 48; refine (lmInts_n _ _ _ _ _ _ [] rfl rfl (by simp) _ CT4.out (Nat.zero_le _) CW4.out (Nat.zero_le _)).mono ?_; rintro e W5 ⟨rfl, hB5⟩; have B5 := Aside0.mk (Qbm B4.out B4.out.size hB5); clear hB5)
     go_ret
     exact ⟨rfl, B5.out⟩
   · have HS := Aside0.mk hs
     have HI := Aside0.mk hi
     obtain ⟨f1, f4, -, fm⟩ := progOk_facts hok
     have hm : Qaa l k ∈ l := by
      obtain ⟨n, rfl⟩ := Int.eq_ofNat_of_zero_le hk.1
      rw [QbG (by omega)]; exact List.getElem_mem _
     obtain ⟨⟨-, -, -, -, h14⟩, hop⟩ := fm _ hm
     have FM : Aside0 (∀ m ∈ l, 0 ≤ m.f0 ∧ m.f0 ≤ 2) := Aside0.mk (fun m hm => ⟨(fm m hm).1.1, (fm m hm).1.2.1⟩)
     have HOP := Aside0.mk hop
     have HDI := Aside0.mk hI
     have HDF := Aside0.mk hF
     have HZ := Aside0.mk hz0
     have LEN := Aside0.mk hI.len
     have hol : out.length ≤ 1048576 := by have := hI.len; omega
     have hk0' := hk.1
     have hk1' := hk.2
     clear hs hi hfl hI hF hop fm hm hok f1 hz0 hk
     generalize hops : Qaa l k = me at *
     have HOPS := Aside0.mk hops
     clear hops
     go_upto_region 5 with (go_at_call 41; refine (specDeepAt_any A c l k out true _ D1.out.now D1.out.cap HS.out).mono ?_; rintro e W2 ⟨Aw, cw, rfl, hcw, hCw, hB2⟩; have y3 := QaT hB2 z3; have D2 := Aside0.mk (D1.out.move (w1 := W2) (Nat.le_refl _) (Nat.le_refl _) (fun i _ h => hB2.block i (by omega))); have B2 := Aside0.mk (Qbm B1.out B1.out.size hB2); have CW := Aside0.mk hCw; have h5 : W1.heap.size < W2.heap.size := Nat.lt_of_lt_of_le hsz hB2.size; clear hB2 z3 hCw)
     go_upto_region 6 with (go_at_call 42; refine (implDeepAt_any A c l k out most true _ D2.out.now D2.out.cap HI.out).mono ?_; rintro e W3 ⟨At, ct, rfl, hct, hCt, hB3⟩; have z5 := QaT hB3 y3; have D3 := Aside0.mk (D2.out.move (w1 := W3) (Nat.le_refl _) (Nat.le_refl _) (fun i _ h => hB3.block i (by omega))); have B3 := Aside0.mk (Qbm B2.out B2.out.size hB3); have CW3 := Aside0.mk (Kd.C_below CW.out hB3); have CT := Aside0.mk hCt; have h6 : W1.heap.size < W3.heap.size := Nat.lt_of_lt_of_le h5 hB3.size; clear hB3 hCt y3)
     go_upto_region 8 with (go_at_call 48; refine (lmInts_n _ _ _ _ _ _ out rfl rfl hol _ CT.out hct CW3.out hcw).mono ?_; rintro e W4 ⟨rfl, hB4⟩; have z6 := QaT hB4 z5; have D4 := Aside0.mk (D3.out.move (w1 := W4) (Nat.le_refl _) (Nat.le_refl _) (fun i _ h => hB4.block i (by omega))); have B4 := Aside0.mk (Qbm B3.out B3.out.size hB4); have CT4 := Aside0.mk (Kd.C_below CT.out hB4); have h7 : W1.heap.size < W4.heap.size := Nat.lt_of_lt_of_le h6 hB4.size; clear hB4 z5)
     obtain ⟨ad, Ao, co, rfl, -, -, hx2, ho2, hr2⟩ := Qbg D4.out.now k hk0' hk1'
     rw [HOPS.out] at hx2 ho2 hr2
     have CO := Aside0.mk hr2
     clear hr2
     go_wp2
     go_loopg [10] me.f2.length (fun gg s10 wr => ∃ i : Nat, i ≤ me.f2.length ∧ me.f2.length - i ≤ gg ∧ s10 = .int .i64 i ∧ Aside0 (Below W4.heap.size W4 wr))
     case atStart => exact ⟨0, Nat.zero_le _, by omega, rfl, ⟨Below.refl _ _⟩⟩
     case round =>
      obtain ⟨i, hi, hg, rfl, BW⟩ := hrel
      have y3 := QaT BW.out z6
      have BZ := Aside0.mk (Qbm B4.out B4.out.size BW.out)
      have CTr := Aside0.mk (Kd.C_below CT4.out BW.out)
      have COr := Aside0.mk (Kd.C_below CO.out BW.out)
      have h8 : W1.heap.size < wr.heap.size := Nat.lt_of_lt_of_le h7 BW.out.size
      have Dr := Aside0.mk (D4.out.move (w1 := wr) (Nat.le_refl _) (Nat.le_refl _) (fun i _ h => BW.out.block i (by omega)))
      clear z6 hx2
      by_cases hlt : i < me.f2.length
      · have hltz : (i : Int) < (me.f2.length : Int) := by omega
        obtain ⟨at0, rfl, hx⟩ := Kd.at_int CTr.out (i : Int) (by omega) (by rw [LEN.out]; exact hltz)
        obtain ⟨ao, rfl, ho0, ho1⟩ := QbE COr.out (i : Int) (by omega) hltz
        simp only [Int.toNat_natCast] at hx ho0 ho1
        have hlo : i < out.length := by rw [LEN.out]; exact hlt
        have hlo2 : (i : Int) < (out.length : Int) := by omega
        generalize hx' : rd out i = x at *
        generalize hk' : (Qah me.f2 i).f0 = kk at *
        generalize ha' : (Qah me.f2 i).f1 = aa at *
        by_cases hneg : x < 0
        · go_wp2
          go_roundg (me.f2.length - (i + 1))
          case measure => omega
          case rel => exact ⟨i + 1, by omega, Nat.le_refl _, by go_num, BW⟩
        · generalize htu : QbA l kk aa = tu at *
          obtain ⟨t, u⟩ := tu
          obtain ⟨⟨g1, g2, g3, g4, g5, g6⟩, hj, hn⟩ := at_step FM.out HDI.out HDF.out i hlt kk aa t u x hk' ha' htu hx' (by omega)
          have HJ := Aside0.mk hj
          have HN := Aside0.mk hn
          have HTU := Aside0.mk htu
          have HX := Aside0.mk (⟨hk', ha', hx'⟩ : _ ∧ _ ∧ _)
          clear hj hn htu hk' ha' hx'
          have x0 : 0 ≤ x := by omega
          go_upto_region 13 with (fail)
          go_region_held3 (fun W' : World => W'.cell? ⟨W1.heap.size, 0, none⟩ = some (.slice (some ad) l.length c) ∧ W'.cell? (ao.add (i * 2)) = some (.int .i64 kk) ∧ W'.cell? ⟨(ao.add (i * 2)).block, (ao.add (i * 2)).off + 1, none⟩ = some (.int .i64 aa)) (first | go_keep | exact ⟨y3', ho0', ho1'⟩) ((go_at_call 24; refine (implOpTakes_tu (some ad) c l kk aa t u _ (Kd.C_drew Dr.out.now) Dr.out.cap HTU.out).mono ?_; rintro e W5 ⟨rfl, hB5⟩; have y3' := QaT hB5 y3; have hx' := QaT hB5 hx; have ho0' := QaT hB5 ho0; have ho1' := QaT hB5 ho1; have BW5 := Aside0.mk (Qbm (Qb2 BW.out) BW.out.size hB5); have CT5 := Aside0.mk (Kd.C_below (Kd.C_drew CTr.out) hB5); clear hB5))
          go_upto_region 17 with (fail)
          by_cases k7 : kk = 7
          · subst k7
            obtain ⟨a0, a1, hra⟩ := HJ.out (.inl rfl)
            obtain ⟨at1, e1, hja⟩ := Kd.at_int CT5.out aa a0 (by rw [LEN.out]; exact a1)
            injection e1 with e1
            subst e1
            rw [hra] at hja
            have alo : aa < (out.length : Int) := by rw [LEN.out]; exact a1
            go_wp2
            go_roundg (me.f2.length - (i + 1))
            case measure => omega
            case rel => exact ⟨i + 1, by omega, Nat.le_refl _, by go_num, BW5⟩
          · by_cases k8 : kk = 8
            · subst k8
              obtain ⟨a0, a1, hra⟩ := HJ.out (.inr rfl)
              obtain ⟨at1, e1, hja⟩ := Kd.at_int CT5.out aa a0 (by rw [LEN.out]; exact a1)
              injection e1 with e1
              subst e1
              rw [hra] at hja
              have alo : aa < (out.length : Int) := by rw [LEN.out]; exact a1
              obtain ⟨i1, hrn⟩ := HN.out (by decide) (by decide)
              obtain ⟨at2, e2, hjn⟩ := Kd.at_int CT5.out ((i : Int) + 1) (by omega) (by rw [LEN.out]; exact i1)
              injection e2 with e2
              subst e2
              rw [hrn, show ((i : Int) + 1).toNat = i + 1 by omega] at hjn
              have hjn2 : W5.cell? ⟨at0.block, at0.off + (i + 1), none⟩ = some (.int .i64 (x - t + u)) := hjn
              clear hjn
              have ilo2 : (i : Int) + 1 < (out.length : Int) := by rw [LEN.out]; exact i1
              have ilo : i + 1 < out.length := by rw [LEN.out]; omega
              go_wp2
              go_roundg (me.f2.length - (i + 1))
              case measure => omega
              case rel => exact ⟨i + 1, by omega, Nat.le_refl _, by go_num, BW5⟩
            · have b7 : (kk == 7) = false := beq_eq_false_iff_ne.mpr k7
              have b8 : (kk == 8) = false := beq_eq_false_iff_ne.mpr k8
              by_cases k10 : kk = 10
              · subst k10
                clear k7 k8
                go_wp2
                go_roundg (me.f2.length - (i + 1))
                case measure => omega
                case rel => exact ⟨i + 1, by omega, Nat.le_refl _, by go_num, BW5⟩
              · have b10 : (kk == 10) = false := beq_eq_false_iff_ne.mpr k10
                have n7 : (kk != 7) = true := bne_iff_ne.mpr k7
                have n10 : (kk != 10) = true := bne_iff_ne.mpr k10
                obtain ⟨i1, hrn⟩ := HN.out (k7) (k10)
                obtain ⟨at2, e2, hjn⟩ := Kd.at_int CT5.out ((i : Int) + 1) (by omega) (by rw [LEN.out]; exact i1)
                injection e2 with e2
                subst e2
                rw [hrn, show ((i : Int) + 1).toNat = i + 1 by omega] at hjn
                have hjn2 : W5.cell? ⟨at0.block, at0.off + (i + 1), none⟩ = some (.int .i64 (x - t + u)) := hjn
                clear hjn
                have ilo2 : (i : Int) + 1 < (out.length : Int) := by rw [LEN.out]; exact i1
                have ilo : i + 1 < out.length := by rw [LEN.out]; omega
                clear k7 k8 k10
                go_wp2
                go_roundg (me.f2.length - (i + 1))
                case measure => omega
                case rel => exact ⟨i + 1, by omega, Nat.le_refl _, by go_num, BW5⟩
      · obtain rfl : i = me.f2.length := by omega
        obtain ⟨at0, rfl, hx⟩ := Kd.at_int CTr.out 0 (by omega) (by rw [LEN.out]; omega)
        rw [HZ.out] at hx
        have hol2 : 0 < out.length := by rw [LEN.out]; exact hpos
        have hll := LEN.out
        have hx0 : wr.cell? at0 = some (.int .i64 0) := hx
        clear hx
        go_wp2
        go_ret
        exact ⟨by simp, BZ.out⟩
end Go.Proofs.Ytcllkemhlhbdgaa.G
