import Derived.Test.YtabcijheemjplaaK0ee0c6c4
import Derived.Test.YtabcijheemjplaaK6541d6bf
import Derived.Test.YtabcijheemjplaaKf9ca0b40
import Derived.Test.YtabcijheemjplaaK02c079f6
import Derived.Shelf.Abstract
import Derived.IntWalk
import Derived.Test.YtabcijheemjplaaKab7380cf
import Derived.Test.YtabcijheemjplaaK67e23c5d
namespace Go.Proofs.Ytabcijheemjplaa.G
open Go.RowKit Go.Proofs.YtabcijheemjplaaW.PrintWords Go.Proofs.YtabcijheemjplaaW.PrintLast Go.Proofs.YtabcijheemjplaaW.PrintMore
attribute [local go_sem] QaV QaW Qba Qbb QaO QaP QaX QaY
set_option linter.unusedVariables false
set_option linter.unusedSimpArgs false
set_option maxHeartbeats 4000000 in
theorem drawDeepAt_any (A0 : Option Addr) (c0 : Nat) (l0 : List Int) (w : World) (hr0 : Kd.C (Kd.int .u8) w A0 l0.length l0) (hc0 : l0.length ≤ c0) (hl : l0.length ≤ 1048576) (hb : ∀ x, x ∈ l0 → 0 ≤ x ∧ x ≤ 255) :
 Calls Try.prog 15 #[.slice A0 l0.length c0] w fun e w' => ∃ A c l k, e = .returned (.tuple #[.agg #[.slice A l.length c], .int .i64 k]) ∧ QbQ w.heap.size w'.heap.size A c l w' ∧ Below w.heap.size w w' ∧ -10 ≤ k ∧ k ≤ 100 := by
 have HR := Aside0.mk hr0
 have HB := Aside0.mk hb
 clear hr0 hb
 go_enter Try.func15, Try.ntmps15
 go_upto_if 12 with (first | (go_at_call 53; refine (open_any A0 c0 l0 w _ (Qak (Below.refl _ _) _) HR.out hc0 hl HB.out).mono ?_; rintro e W1 ⟨g, s, rfl, hI, hB1, hB2, hc⟩; have I1 := Aside0.mk hI; have B1 := Aside0.mk hB1; have C1 := Aside0.mk hc; have b2 := (hB2.block w.heap.size (by simp)).trans (heap_alloc_new _ _); have N2 := Aside0.mk (hI.ne_blk b2 (by decide)); have B2 := Aside0.mk b2; have G1 := hI.lt; have hs1 := hB2.size; simp only [World.size_alloc] at hs1; clear hI hB1 hB2 hc b2) | (go_at_call 54; refine (prog_any g s 0 w _ I1.out B1.out C1.out (by omega)).mono ?_; rintro e W2 ⟨A, c, l, p1, rfl, hD, hS1, hB1, hK1, hok, hne, hl2, hp1, hp2⟩; have D2 := Aside0.mk ((DrSt.call (DrSt.new I1.out B1.out) hS1 hB1 hK1).alloc (.cells #[.slice A l.length c] 25)); have hs2 := hK1.1; have b2 := hK1.blk B2.out (Ne.symm N2.out) (by simp); have PR := Aside0.mk (⟨hD.alloc (Nat.le_refl _) _, hok, hne, hl2⟩ : QbQ _ _ A c l (W2.alloc (.cells #[.slice A l.length c] 25)) ∧ _ ∧ _ ∧ _); clear hS1 hB1 hK1 hD hok hne hl2) | (go_at_call 55; refine (Qb5 g s p1 _ w _ D2.out.st D2.out.bel (C1.out.to hp1) (by omega)).mono ?_; rintro e W3 ⟨r, rfl, ⟨hr0, hr1⟩, hS1, hB1, hK1⟩; have D3 := Aside0.mk (D2.out.call hS1 hB1 hK1); have c3 := hK1.blk (heap_alloc_new W2 _) (by omega) (by simp); have c2 := hK1.blk ((Below.heap_alloc _ _ _ (by omega)).trans b2) (Ne.symm N2.out) (by simp); have HD := Aside0.mk (PR.out.1.keep (by simp) (by omega) hK1); have hs3 := hK1.1; simp only [World.size_alloc] at hs3; clear hS1 hB1 hK1 b2))
 have z3 := (Qaf c3 0).trans rfl
 have f3 := Qaj c3 0
 have E2 := Aside0.mk c2
 have E3 := Aside0.mk c3
 clear c2 c3
 go_cut [] (fun wc => ∃ (A' : Option Addr) (c' : Nat) (l' : List Qae) (p' : Int) (hi : Nat), Aside0 (DrSt w W1 wc g s p') ∧ Aside0 (QbQ W1.heap.size hi A' c' l' wc) ∧ Aside0 (hi ≤ wc.heap.size ∧ W2.heap.size < wc.heap.size) ∧ Aside0 (0 ≤ p' ∧ p' ≤ 10000) ∧ Aside0 (wc.heap[w.heap.size]? = some (.cells #[.slice none 0 0] 25 (0, 0))) ∧ Aside0 (wc.heap[W2.heap.size]? = some (.cells #[.slice A' l'.length c'] 25 (0, 0))))
 case first =>
  by_cases r0 : r = 0
  · subst r0
    go_wp2_with (go_at_call 56; refine (l71Bent_any g s (p1 + 1) A c l w _ D3.out.st D3.out.bel (C1.out.to (by omega)) (by omega) HD.out.now (by have := HD.out.few; omega) (by have := PR.out.2.2.2; omega) (fun m hm => ⟨PR.out.2.2.1 m hm, HD.out.ops m hm⟩)).mono ?_; rintro e W4 ⟨A', c', l', p', rfl, hl', hC', hS1, hB1, hK1, hlen, hops, hp3, hp4⟩; have D4 := Aside0.mk (D3.out.call hS1 hB1 hK1); have d2 := hK1.blk E2.out (Ne.symm N2.out) (by simp); have d3 := hK1.blk E3.out (by omega) (by simp); have HD4 := Aside0.mk (⟨hl', hC', by have := (progOkB_few PR.out.2.1).1; omega, hops⟩ : QbQ W3.heap.size W4.heap.size A' c' l' W4); have hs4 := hK1.1; have y3 := (Qaf d3 0).trans rfl; have g3 := Qaj d3 0; have F2 := Aside0.mk d2; have F3 := Aside0.mk d3; clear hS1 hB1 hK1 hC' d2 d3)
    go_meet
    refine ⟨A', c', l', p', W4.heap.size, ⟨D4.out.set_ (by omega) _⟩, ⟨(HD4.out.set_ (b := W2.heap.size) (j := 0) (.inl (by omega)) _).move (by omega) (Nat.le_refl _) (fun _ _ _ => rfl)⟩, ⟨by simp, by simp; omega⟩, ⟨by omega, by omega⟩, ⟨(Qa9 (by show w.heap.size ≠ W2.heap.size; omega)).trans F2.out⟩, ⟨by simpa using QbR F3.out 0 (.slice A' l'.length c')⟩⟩
  · have hne : (r == 0) = false := beq_eq_false_iff_ne.mpr r0
    clear r0
    go_wp2
    go_meet
    exact ⟨A, c, l, p1 + 1, W2.heap.size, D3, HD, ⟨by omega, by omega⟩, ⟨by omega, by omega⟩, E2, E3⟩
 case rest =>
  obtain ⟨A', c', l', p', hi, D, HD, HI, PB, E2, E3⟩ := hcut
  have y3 := (Qaf E3.out 0).trans rfl
  have y2 := (Qaf E2.out 0).trans rfl
  have f2 := Qaj E2.out 0
  have hlen := HD.out.few
  have tok1 : True := trivial
  have tok2 : True := trivial
  have n3 : W2.heap.size ≠ g := by omega
  have nb : w.heap.size ≠ W2.heap.size := by omega
  clear z3 f3
  have hpb := PB.out
  go_wp2
  go_region_held3 (fun W' : World => W'.cell? ⟨W2.heap.size, 0, none⟩ = some (.slice A' l'.length c') ∧ True) (go_keep) ((first | (go_at_call 55; have _t := tok1; clear _t tok1; refine (Qb5 g s p' _ w _ (D.out.drewN _).st (D.out.drewN _).bel (C1.out.to hpb.1) (by omega)).mono ?_; rintro e W4 ⟨x, rfl, ⟨hx0, hx1⟩, hS1, hB1, hK1⟩; have D4 := Aside0.mk ((D.out.drewN _).call hS1 hB1 hK1); have y4 := Qbn hK1 n3 y3; have y2' := Qbn hK1 (Ne.symm N2.out) y2; have f2' := QbI hK1 (Ne.symm N2.out) y2 f2; have K4 := Aside0.mk hK1; clear hS1 hB1 hK1) | (go_at_call 55; have _t := tok2; clear _t tok2; refine (Qb5 g s (p' + 1) _ w _ D4.out.st D4.out.bel (C1.out.to (by omega)) (by omega)).mono ?_; rintro e W5 ⟨z, rfl, ⟨hz0, hz1⟩, hS1, hB1, hK1⟩; have D5 := Aside0.mk (D4.out.call hS1 hB1 hK1); have y5 := Qbn hK1 n3 y4; have y2'' := Qbn hK1 (Ne.symm N2.out) y2'; have f2'' := QbI hK1 (Ne.symm N2.out) y2' f2'; have K5 := Aside0.mk hK1; clear hS1 hB1 hK1)))
  go_wp2
  have s4 := K4.out.1
  have s5 := K5.out.1
  refine bodyPost_ret (Qb_ rfl _ _ w.heap.size 25 #[.slice A' l'.length c'] (0, 0) _ rfl (by simpa using QbR (K5.out.blk (K4.out.blk E2.out (Ne.symm N2.out) (by simp)) (Ne.symm N2.out) (by simp)) 0 (.slice A' l'.length c')) Try.underlying25 rfl (by kernel_rfl)) rfl ?_
  have e1 : IntKind.i64.wrap ((l'.length : Int) + 1) = (l'.length : Int) + 1 := IntWalk.i64_in _ (by omega)
  rw [e1] at hx1
  have hx2 := hx1 (by omega)
  have hz2 := hz1 (by omega)
  have t0 : 0 ≤ Int.tdiv z 8 := Int.tdiv_nonneg hz0 (by omega)
  have t1 : Int.tdiv z 8 ≤ z := Int.tdiv_le_self _ hz0
  refine ⟨A', c', l', _, rfl, (((HD.out.move (Nat.le_refl _) (Nat.le_refl _) (fun _ _ _ => rfl)).keep (by have := HI.out.1; show hi ≤ wc.heap.size; omega) G1 K4.out).keep (by have := HI.out.1; have := s4; simp at this; omega) G1 K5.out |>.set_ (b := w.heap.size) (j := 0) (.inl (by omega)) _).move (by omega) (by have := HI.out.1; simp at s4; simp; omega) (fun _ _ _ => rfl), D5.out.bel.setCell (p := ⟨w.heap.size, 0, none⟩) (Nat.le_refl _) _, ?_, ?_⟩
  · rw [IntWalk.i64_in (Int.tdiv z 8) (by omega), IntWalk.i64_in _ (by omega)]
    omega
  · rw [IntWalk.i64_in (Int.tdiv z 8) (by omega), IntWalk.i64_in _ (by omega)]
    omega
end Go.Proofs.Ytabcijheemjplaa.G
namespace Go.Proofs.Ytabcijheemjplaa.G
open Go.RowKit Go.Proofs.YtabcijheemjplaaW.PrintWords Go.Proofs.YtabcijheemjplaaW.PrintLast Go.Proofs.YtabcijheemjplaaW.PrintMore
attribute [local go_sem] QaV QaW Qba Qbb QaO QaP QaX QaY
set_option linter.unusedVariables false
set_option linter.unusedSimpArgs false
set_option maxHeartbeats 4000000 in
theorem drawDeepMost_any (A0 : Option Addr) (c0 : Nat) (l0 : List Int) (w : World) (hr0 : Kd.C (Kd.int .u8) w A0 l0.length l0) (hc0 : l0.length ≤ c0) (hl : l0.length ≤ 1048576) (hb : ∀ x, x ∈ l0 → 0 ≤ x ∧ x ≤ 255) :
 Calls Try.prog 20 #[.slice A0 l0.length c0] w fun e w' => ∃ A c l k, e = .returned (.tuple #[.agg #[.slice A l.length c], .int .i64 k]) ∧ QbQ w.heap.size w'.heap.size A c l w' ∧ Below w.heap.size w w' ∧ -10 ≤ k ∧ k ≤ 100 := by
 have HR := Aside0.mk hr0
 have HB := Aside0.mk hb
 clear hr0 hb
 go_enter Try.func20, Try.ntmps20
 go_wp2_with (go_at_call 15; refine (drawDeepAt_any A0 c0 l0 _ (Kd.C_alloc HR.out _) hc0 hl HB.out).mono ?_; rintro e W1 ⟨A, c, l, k, rfl, hD, hB1, hk0, hk1⟩; have b2 := (hB1.block w.heap.size (by simp)).trans (heap_alloc_new _ _); have z2 := (Qaf b2 0).trans rfl; have f2 := Qaj b2 0; have hs1 := hB1.size; simp only [World.size_alloc] at hs1; have E2 := Aside0.mk b2; have HD := Aside0.mk hD; have B1 := Aside0.mk (Qbo (Qak (Below.refl _ _) _) (by simp) hB1); clear hD hB1 b2)
 refine bodyPost_ret (Qb_ rfl _ _ w.heap.size 25 #[.slice A l.length c] (0, 0) _ rfl (by simpa using QbR E2.out 0 (.slice A l.length c)) Try.underlying25 rfl (by kernel_rfl)) rfl ?_
 exact ⟨A, c, l, k, rfl, (HD.out.set_ (b := w.heap.size) (j := 0) (.inl (by simp)) _).move (by simp) (by simp) (fun _ _ _ => rfl), B1.out.setCell (p := ⟨w.heap.size, 0, none⟩) (Nat.le_refl _) _, hk0, hk1⟩
end Go.Proofs.Ytabcijheemjplaa.G
namespace Go.Proofs.Ytabcijheemjplaa.G
open Go.RowKit Go.Proofs.YtabcijheemjplaaW.PrintWords Go.Proofs.YtabcijheemjplaaW.PrintLast Go.Proofs.YtabcijheemjplaaW.PrintMore
attribute [local go_sem] QaV QaW Qba Qbb QaO QaP QaX QaY
set_option linter.unusedVariables false
set_option linter.unusedSimpArgs false
theorem deepMost_tells (l : List Qae) (hf : fewI l) (a : Int) :
 (Ev (fun k => QaD.f k l a) (-1) ∧ Ev (fun k => Qao.f k l a) ([], 0, false)) ∨
 ∃ out most, Ev (fun k => QaD.f k l a) most ∧ Ev (fun k => Qao.f k l a) (out, most, true) ∧ (0 ≤ most ∧ most ≤ 6) ∧ out.length ≤ 14 ∧ ∀ i : Nat, i < out.length → rd out i ≤ most := by
 rcases deepAt_both l hf a with ⟨h1, h2⟩ | ⟨out, most, hok, ha, hI, -, h1, h2⟩
 · exact .inl ⟨by unfold QaD.f; exact Ev.bnd h1 (Ev.ifn (by simp) (Ev.now _)), h2⟩
 · obtain ⟨f1, f4, -, fm⟩ := progOk_facts hok
   have hm : Qaa l a ∈ l := by
    obtain ⟨n, rfl⟩ := Int.eq_ofNat_of_zero_le ha.1
    rw [QbF (by omega)]
    exact List.getElem_mem _
   have hlen := hI.len
   have h14 := (fm _ hm).1.2.2.2.2
   refine .inr ⟨out, most, ?_, h2, ⟨hI.dn.1, ?_⟩, by omega, fun i hi => ?_⟩
   · unfold QaD.f
     exact Ev.bnd h1 (Ev.ifp rfl (most_fold l hf (fun m hm => ⟨(fm m hm).1.1, (fm m hm).1.2.1⟩) a ha out most hI h14))
   · rcases hI.dn.2 with h | ⟨i, h0, h3, h4, h⟩
     · omega
     · have h6 := (hI.rng i h0 h3).2
       rcases h with h | h
       · omega
       · rw [h]
         unfold dAt dB
         split
         · omega
         · split <;> omega
   · by_cases hn : 0 ≤ rd out i
     · exact ((hI.up i (by omega) (by omega) hn).resolve_left (by simp)).2.1
     · have := hI.dn.1
       omega
theorem Qb7 (A : Option Addr) (c : Nat) (l : List Qae) (k n : Int) (w : World) (hr : Kd.C QaM w A l.length l) (hc : l.length ≤ c) (h : Ev (fun r => QaD.f r l k) n) :
 Calls Try.prog 21 #[.agg #[.slice A l.length c], .int .i64 k] w fun e w' => e = .returned (.int .i64 n) ∧ Below w.heap.size w w' := by
 obtain ⟨r, hn⟩ := h.rounds
 exact QaD.calls r A c l k n w hr hc hn
theorem implDeepMost_any (A : Option Addr) (c : Nat) (l : List Qae) (k : Int) (out : List Int) (most : Int) (b : Bool) (n : Int) (w : World) (hr : Kd.C QaM w A l.length l) (hc : l.length ≤ c) (h : Ev (fun n => Qao.f n l k) (out, most, b)) (hn : n = if b = true then most else -1) :
 Calls Try.prog 19 #[.agg #[.slice A l.length c], .int .i64 k] w fun e w' => e = .returned (.int .i64 n) ∧ Below w.heap.size w w' := by
 have h2 : Ev (fun r => Qbs.f r l k) n := by
  unfold Qbs.f
  refine Ev.bnd h ?_
  rw [hn]
  cases b
  · exact Ev.ifn (by simp) (Ev.now _)
  · exact Ev.ifp rfl (Ev.now _)
 obtain ⟨r, hr2⟩ := h2.rounds
 exact Qbs.calls r A c l k n w hr hc hr2
set_option maxHeartbeats 4000000 in
set_option maxRecDepth 100000 in
theorem law_FnDeepMost (A0 : Option Addr) (c0 : Nat) (l0 : List Int) (w : World) (hr0 : Kd.C (Kd.int .u8) w A0 l0.length l0) (hc0 : l0.length ≤ c0) (hb : ∀ x, x ∈ l0 → 0 ≤ x ∧ x ≤ 255) :
 Calls Try.prog 4 #[.slice A0 l0.length c0] w fun e w' => e = .returned (.bool true) ∧ Below w.heap.size w w' := by
 have HR := Aside0.mk hr0
 have HB := Aside0.mk hb
 have hm := Kd.C_max hr0
 clear hr0 hb
 by_cases hl : (1048576 : Int) < (l0.length : Int)
 · go_enter Try.func4, Try.ntmps4
   go_wp2
   go_ret
   exact ⟨rfl, Below.refl _ _⟩
 · go_enter Try.func4, Try.ntmps4
   go_upto_region 4 with (go_at_call 20; refine (drawDeepMost_any A0 c0 l0 _ HR.out hc0 (by omega) HB.out).mono ?_; rintro e W1 ⟨A, c, l, k, rfl, hD, hB1, hk0, hk1⟩; have B1 := Aside0.mk (Qak hB1 (.cells #[.slice A l.length c] 25)); have D1 := Aside0.mk (hD.alloc (Nat.le_refl _) (.cells #[.slice A l.length c] 25)); clear hD hB1)
   have b3 := heap_alloc_new W1 (.cells #[.slice A l.length c] 25)
   have hsz : W1.heap.size < (W1.alloc (.cells #[.slice A l.length c] 25)).heap.size := by simp
   generalize (W1.alloc (.cells #[.slice A l.length c] 25)) = W at *
   have z3 : W.cell? ⟨W1.heap.size, 0, none⟩ = some (.slice A l.length c) := (Qaf b3 0).trans rfl
   clear b3
   have hfl := drawn_few D1.out
   rcases deepMost_tells l hfl k with ⟨hs, hi⟩ | ⟨out, most, hs, hi, ⟨hp0, hp6⟩, h14, hle⟩
   · have HS := Aside0.mk hs
     have HI := Aside0.mk hi
     clear hs hi hfl
     go_upto_region 5 with (go_at_call 19; refine (implDeepMost_any A c l k [] 0 false (-1) _ D1.out.now D1.out.cap HI.out rfl).mono ?_; rintro e W2 ⟨rfl, hB2⟩; have y3 := Qa8 hB2 z3; have D2 := Aside0.mk (D1.out.move (w1 := W2) (Nat.le_refl _) (Nat.le_refl _) (fun i _ h => hB2.block i (by omega))); have B2 := Aside0.mk (Qbo B1.out B1.out.size hB2); have h5 : W1.heap.size < W2.heap.size := Nat.lt_of_lt_of_le hsz hB2.size; clear hB2 z3)
     go_upto_region 6 with (go_at_call 17; refine (implDeepAt_any A c l k [] 0 false _ D2.out.now D2.out.cap HI.out).mono ?_; rintro e W3 ⟨At, ct, rfl, -, hCt, hB3⟩; have z5 := Qa8 hB3 y3; have D3 := Aside0.mk (D2.out.move (w1 := W3) (Nat.le_refl _) (Nat.le_refl _) (fun i _ h => hB3.block i (by omega))); have B3 := Aside0.mk (Qbo B2.out B2.out.size hB3); have h6 : W1.heap.size < W3.heap.size := Nat.lt_of_lt_of_le h5 hB3.size; clear hB3 hCt y3)
     go_upto_region 7 with (go_at_call 21; refine (Qb7 A c l k (-1) _ D3.out.now D3.out.cap HS.out).mono ?_; rintro e W4 ⟨rfl, hB4⟩; have z6 := Qa8 hB4 z5; have D4 := Aside0.mk (D3.out.move (w1 := W4) (Nat.le_refl _) (Nat.le_refl _) (fun i _ h => hB4.block i (by omega))); have B4 := Aside0.mk (Qbo B3.out B3.out.size hB4); clear hB4 z5)
     go_wp2_with (go_at_call 21; refine (Qb7 A c l k (-1) _ D4.out.now D4.out.cap HS.out).mono ?_; rintro e W5 ⟨rfl, hB5⟩; have B5 := Aside0.mk (Qbo B4.out B4.out.size hB5); clear hB5)
     go_ret
     exact ⟨rfl, B5.out⟩
   · have HS := Aside0.mk hs
     have HI := Aside0.mk hi
     have HLE := Aside0.mk hle
     clear hs hi hfl hle
     go_upto_region 5 with (go_at_call 19; refine (implDeepMost_any A c l k out most true most _ D1.out.now D1.out.cap HI.out rfl).mono ?_; rintro e W2 ⟨rfl, hB2⟩; have y3 := Qa8 hB2 z3; have D2 := Aside0.mk (D1.out.move (w1 := W2) (Nat.le_refl _) (Nat.le_refl _) (fun i _ h => hB2.block i (by omega))); have B2 := Aside0.mk (Qbo B1.out B1.out.size hB2); have h5 : W1.heap.size < W2.heap.size := Nat.lt_of_lt_of_le hsz hB2.size; clear hB2 z3)
     go_upto_region 6 with (go_at_call 17; refine (implDeepAt_any A c l k out most true _ D2.out.now D2.out.cap HI.out).mono ?_; rintro e W3 ⟨At, ct, rfl, hct, hCt, hB3⟩; have z5 := Qa8 hB3 y3; have CT := Aside0.mk hCt; have D3 := Aside0.mk (D2.out.move (w1 := W3) (Nat.le_refl _) (Nat.le_refl _) (fun i _ h => hB3.block i (by omega))); have B3 := Aside0.mk (Qbo B2.out B2.out.size hB3); have h6 : W1.heap.size < W3.heap.size := Nat.lt_of_lt_of_le h5 hB3.size; clear hB3 hCt y3)
     go_upto_region 8 with (go_at_call 21; refine (Qb7 A c l k most _ D3.out.now D3.out.cap HS.out).mono ?_; rintro e W4 ⟨rfl, hB4⟩; have B4 := Aside0.mk (Qbo B3.out B3.out.size hB4); have CT4 := Aside0.mk (Kd.C_below CT.out hB4); clear hB4 z5)
     go_wp2
     go_loopg [8] out.length (fun gg s8 wr => ∃ i : Nat, i ≤ out.length ∧ out.length - i ≤ gg ∧ s8 = .int .i64 i ∧ wr = W4)
     case atStart => exact ⟨0, Nat.zero_le _, by omega, rfl, rfl⟩
     case round =>
      obtain ⟨i, hi, hg, rfl, rfl⟩ := hrel
      by_cases hlt : i < out.length
      · have hltz : (i : Int) < (out.length : Int) := by omega
        obtain ⟨at0, rfl, hx⟩ := Kd.at_int CT4.out (i : Int) (by omega) hltz
        simp only [Int.toNat_natCast] at hx
        have hxle := HLE.out i hlt
        generalize rd out i = x at *
        go_wp2
        go_roundg (out.length - (i + 1))
        case measure => omega
        case rel => exact ⟨i + 1, by omega, Nat.le_refl _, by go_num, rfl⟩
      · obtain rfl : i = out.length := by omega
        go_wp2
        go_ret
        exact ⟨by simp [hp0, hp6], B4.out⟩
end Go.Proofs.Ytabcijheemjplaa.G
