import Derived.Test.YtabcijheemjplaaK7e4b1ddb
import Derived.Test.YtabcijheemjplaaK6cae876f
import Derived.Test.YtabcijheemjplaaK4f55fcb3
import Derived.Test.YtabcijheemjplaaK94b38d0a
import Derived.Shelf.Abstract
import Derived.IntWalk
import Derived.Test.YtabcijheemjplaaK0402440e
import Derived.Test.YtabcijheemjplaaK446a82f1
import Derived.Test.YtabcijheemjplaaK8d3c4538
namespace Go.Proofs.Ytabcijheemjplaa.G
open Go.RowKit Go.Proofs.YtabcijheemjplaaW.PrintWords Go.Proofs.YtabcijheemjplaaW.PrintLast Go.Proofs.YtabcijheemjplaaW.PrintMore
attribute [local go_sem] QaW QaX Qa8 Qa9 QaM QaN QaY QaZ
set_option linter.unusedVariables false
set_option linter.unusedSimpArgs false
set_option maxHeartbeats 4000000 in
theorem drawDeepAt_any (A0 : Option Addr) (c0 : Nat) (l0 : List Int) (w : World) (hr0 : Kd.C (Kd.int .u8) w A0 l0.length l0) (hc0 : l0.length ≤ c0) (hl : l0.length ≤ 1048576) (hb : ∀ x, x ∈ l0 → 0 ≤ x ∧ x ≤ 255) :
 Calls Try.prog 15 #[.slice A0 l0.length c0] w fun e w' => ∃ A c l k, e = .returned (.tuple #[.agg #[.slice A l.length c], .int .i64 k]) ∧ QbS w.heap.size w'.heap.size A c l w' ∧ Below w.heap.size w w' ∧ -10 ≤ k ∧ k ≤ 100 := by
 have HR := Aside0.mk hr0
 have HB := Aside0.mk hb
 clear hr0 hb
 go_enter Try.func15, Try.ntmps15
 go_upto_if 12 with (first | (go_at_call 53; refine (open_any A0 c0 l0 w _ (Qak (Below.refl _ _) _) HR.out hc0 hl HB.out).mono ?_; rintro e W1 ⟨g, s, rfl, hI, hB1, hB2, hc⟩; have I1 := Aside0.mk hI; have B1 := Aside0.mk hB1; have C1 := Aside0.mk hc; have b2 := (hB2.block w.heap.size (by simp)).trans (heap_alloc_new _ _); have N2 := Aside0.mk (hI.ne_blk b2 (by decide)); have B2 := Aside0.mk b2; have G1 := hI.lt; have hs1 := hB2.size; simp only [World.size_alloc] at hs1; clear hI hB1 hB2 hc b2) | (go_at_call 54; refine (prog_any g s 0 w _ I1.out B1.out C1.out (by omega)).mono ?_; rintro e W2 ⟨A, c, l, p1, rfl, hD, hS1, hB1, hK1, hok, hne, hl2, hp1, hp2⟩; have D2 := Aside0.mk ((DrSt.call (DrSt.new I1.out B1.out) hS1 hB1 hK1).alloc (.cells #[.slice A l.length c] 25)); have hs2 := hK1.1; have b2 := hK1.blk B2.out (Ne.symm N2.out) (by simp); have PR := Aside0.mk (⟨hD.alloc (Nat.le_refl _) _, hok, hne, hl2⟩ : QbS _ _ A c l (W2.alloc (.cells #[.slice A l.length c] 25)) ∧ _ ∧ _ ∧ _); clear hS1 hB1 hK1 hD hok hne hl2) | (go_at_call 55; refine (Qb6 g s p1 _ w _ D2.out.st D2.out.bel (C1.out.to hp1) (by omega)).mono ?_; rintro e W3 ⟨r, rfl, ⟨hr0, hr1⟩, hS1, hB1, hK1⟩; have D3 := Aside0.mk (D2.out.call hS1 hB1 hK1); have c3 := hK1.blk (heap_alloc_new W2 _) (by omega) (by simp); have c2 := hK1.blk ((Below.heap_alloc _ _ _ (by omega)).trans b2) (Ne.symm N2.out) (by simp); have HD := Aside0.mk (PR.out.1.keep (by simp) (by omega) hK1); have hs3 := hK1.1; simp only [World.size_alloc] at hs3; clear hS1 hB1 hK1 b2))
 have z3 := (Qaf c3 0).trans rfl
 have f3 := Qaj c3 0
 have E2 := Aside0.mk c2
 have E3 := Aside0.mk c3
 clear c2 c3
 go_cut [] (fun wc => ∃ (A' : Option Addr) (c' : Nat) (l' : List Qae) (p' : Int) (hi : Nat), Aside0 (DrSt w W1 wc g s p') ∧ Aside0 (QbS W1.heap.size hi A' c' l' wc) ∧ Aside0 (hi ≤ wc.heap.size ∧ W2.heap.size < wc.heap.size) ∧ Aside0 (0 ≤ p' ∧ p' ≤ 10000) ∧ Aside0 (wc.heap[w.heap.size]? = some (.cells #[.slice none 0 0] 25 (0, 0))) ∧ Aside0 (wc.heap[W2.heap.size]? = some (.cells #[.slice A' l'.length c'] 25 (0, 0))))
 case first =>
  by_cases r0 : r = 0
  · subst r0
    go_wp2_with (go_at_call 56; refine (l71Bent_any g s (p1 + 1) A c l w _ D3.out.st D3.out.bel (C1.out.to (by omega)) (by omega) HD.out.now (by have := HD.out.few; omega) (by have := PR.out.2.2.2; omega) (fun m hm => ⟨PR.out.2.2.1 m hm, HD.out.ops m hm⟩)).mono ?_; rintro e W4 ⟨A', c', l', p', rfl, hl', hC', hS1, hB1, hK1, hlen, hops, hp3, hp4⟩; have D4 := Aside0.mk (D3.out.call hS1 hB1 hK1); have d2 := hK1.blk E2.out (Ne.symm N2.out) (by simp); have d3 := hK1.blk E3.out (by omega) (by simp); have HD4 := Aside0.mk (⟨hl', hC', by have := (progOkB_few PR.out.2.1).1; omega, hops⟩ : QbS W3.heap.size W4.heap.size A' c' l' W4); have hs4 := hK1.1; have y3 := (Qaf d3 0).trans rfl; have g3 := Qaj d3 0; have F2 := Aside0.mk d2; have F3 := Aside0.mk d3; clear hS1 hB1 hK1 hC' d2 d3)
    go_meet
    refine ⟨A', c', l', p', W4.heap.size, ⟨D4.out.set_ (by omega) _⟩, ⟨(HD4.out.set_ (b := W2.heap.size) (j := 0) (.inl (by omega)) _).move (by omega) (Nat.le_refl _) (fun _ _ _ => rfl)⟩, ⟨by simp, by simp; omega⟩, ⟨by omega, by omega⟩, ⟨(Qa6 (by show w.heap.size ≠ W2.heap.size; omega)).trans F2.out⟩, ⟨by simpa using QbT F3.out 0 (.slice A' l'.length c')⟩⟩
  · have hne : (r == 0) = false := beq_eq_false_iff_ne.mpr r0
    clear r0
    go_wp2
    go_meet
    exact ⟨A, c, l, p1 + 1, W2.heap.size, D3, HD, ⟨by omega, by omega⟩, ⟨by omega, by omega⟩, E2, E3⟩
 case rest =>
  obtain ⟨A', c', l', p', hi, D, HD, HI, PB, E2, E3⟩ := hcut
  have y3 := (Qaf E3.out 0).trans rfl
  have y2 := (Qaf E2.out 0).trans rfl
  have f2 := Qaj E2.out 0
  have hlen := HD.out.few
  have tok1 : True := trivial
  have tok2 : True := trivial
  have n3 : W2.heap.size ≠ g := by omega
  have nb : w.heap.size ≠ W2.heap.size := by omega
  clear z3 f3
  have hpb := PB.out
  go_wp2
  go_region_held3 (fun W' : World => W'.cell? ⟨W2.heap.size, 0, none⟩ = some (.slice A' l'.length c') ∧ True) (go_keep) ((first | (go_at_call 55; have _t := tok1; clear _t tok1; refine (Qb6 g s p' _ w _ (D.out.drewN _).st (D.out.drewN _).bel (C1.out.to hpb.1) (by omega)).mono ?_; rintro e W4 ⟨x, rfl, ⟨hx0, hx1⟩, hS1, hB1, hK1⟩; have D4 := Aside0.mk ((D.out.drewN _).call hS1 hB1 hK1); have y4 := Qbp hK1 n3 y3; have y2' := Qbp hK1 (Ne.symm N2.out) y2; have f2' := QbK hK1 (Ne.symm N2.out) y2 f2; have K4 := Aside0.mk hK1; clear hS1 hB1 hK1) | (go_at_call 55; have _t := tok2; clear _t tok2; refine (Qb6 g s (p' + 1) _ w _ D4.out.st D4.out.bel (C1.out.to (by omega)) (by omega)).mono ?_; rintro e W5 ⟨z, rfl, ⟨hz0, hz1⟩, hS1, hB1, hK1⟩; have D5 := Aside0.mk (D4.out.call hS1 hB1 hK1); have y5 := Qbp hK1 n3 y4; have y2'' := Qbp hK1 (Ne.symm N2.out) y2'; have f2'' := QbK hK1 (Ne.symm N2.out) y2' f2'; have K5 := Aside0.mk hK1; clear hS1 hB1 hK1)))
  go_wp2
  have s4 := K4.out.1
  have s5 := K5.out.1
  refine bodyPost_ret (Qcj rfl _ _ w.heap.size 25 #[.slice A' l'.length c'] (0, 0) _ rfl (by simpa using QbT (K5.out.blk (K4.out.blk E2.out (Ne.symm N2.out) (by simp)) (Ne.symm N2.out) (by simp)) 0 (.slice A' l'.length c')) Try.underlying25 rfl (by kernel_rfl)) rfl ?_
  have e1 : IntKind.i64.wrap ((l'.length : Int) + 1) = (l'.length : Int) + 1 := IntWalk.i64_in _ (by omega)
  rw [e1] at hx1
  have hx2 := hx1 (by omega)
  have hz2 := hz1 (by omega)
  have t0 : 0 ≤ Int.tdiv z 8 := Int.tdiv_nonneg hz0 (by omega)
  have t1 : Int.tdiv z 8 ≤ z := Int.tdiv_le_self _ hz0
  refine ⟨A', c', l', _, rfl, (((HD.out.move (Nat.le_refl _) (Nat.le_refl _) (fun _ _ _ => rfl)).keep (by have := HI.out.1; show hi ≤ wc.heap.size; omega) G1 K4.out).keep (by have := HI.out.1; have := s4; simp at this; omega) G1 K5.out |>.set_ (b := w.heap.size) (j := 0) (.inl (by omega)) _).move (by omega) (by have := HI.out.1; simp at s4; simp; omega) (fun _ _ _ => rfl), D5.out.bel.setCell (p := ⟨w.heap.size, 0, none⟩) (Nat.le_refl _) _, ?_, ?_⟩
  · rw [IntWalk.i64_in (Int.tdiv z 8) (by omega), IntWalk.i64_in _ (by omega)]
    omega
  · rw [IntWalk.i64_in (Int.tdiv z 8) (by omega), IntWalk.i64_in _ (by omega)]
    omega
end Go.Proofs.Ytabcijheemjplaa.G
namespace Go.Proofs.Ytabcijheemjplaa.G
open Go.RowKit Go.Proofs.YtabcijheemjplaaW.PrintWords Go.Proofs.YtabcijheemjplaaW.PrintLast Go.Proofs.YtabcijheemjplaaW.PrintMore
attribute [local go_sem] QaW QaX Qa8 Qa9 QaM QaN QaY QaZ
set_option linter.unusedVariables false
set_option linter.unusedSimpArgs false
set_option maxHeartbeats 4000000 in
theorem drawDeepOk_any (A0 : Option Addr) (c0 : Nat) (l0 : List Int) (w : World) (hr0 : Kd.C (Kd.int .u8) w A0 l0.length l0) (hc0 : l0.length ≤ c0) (hl : l0.length ≤ 1048576) (hb : ∀ x, x ∈ l0 → 0 ≤ x ∧ x ≤ 255) :
 Calls Try.prog 22 #[.slice A0 l0.length c0] w fun e w' => ∃ A c l, e = .returned (.agg #[.slice A l.length c]) ∧ QbS w.heap.size w'.heap.size A c l w' ∧ Below w.heap.size w w' := by
 have HR := Aside0.mk hr0
 have HB := Aside0.mk hb
 clear hr0 hb
 go_enter Try.func22, Try.ntmps22
 go_wp2_with (go_at_call 15; refine (drawDeepAt_any A0 c0 l0 _ (Kd.C_alloc HR.out _) hc0 hl HB.out).mono ?_; rintro e W1 ⟨A, c, l, k, rfl, hD, hB1, hk0, hk1⟩; have b2 := (hB1.block w.heap.size (by simp)).trans (heap_alloc_new _ _); have z2 := (Qaf b2 0).trans rfl; have f2 := Qaj b2 0; have hs1 := hB1.size; simp only [World.size_alloc] at hs1; have hlt : w.heap.size < W1.heap.size := hs1; have E2 := Aside0.mk b2; have HD := Aside0.mk hD; have B1 := Aside0.mk (Qbr (Qak (Below.refl _ _) _) (by simp) hB1); clear hD hB1 b2)
 refine bodyPost_ret (results_cell_row rfl _ _ w.heap.size 25 #[.slice A l.length c] (0, 0) _ rfl ((Below.heap_alloc _ _ _ (by rw [World.size_setCell]; exact hlt)).trans (by simpa using QbT E2.out 0 (.slice A l.length c))) Try.underlying25 rfl (by kernel_rfl)) rfl ?_
 exact ⟨A, c, l, rfl, ((HD.out.set_ (b := w.heap.size) (j := 0) (.inl (by simp)) _).alloc (by simp) _).move (by simp) (by simp) (fun _ _ _ => rfl), Qak (B1.out.setCell (p := ⟨w.heap.size, 0, none⟩) (Nat.le_refl _) _) _⟩
end Go.Proofs.Ytabcijheemjplaa.G
namespace Go.Proofs.Ytabcijheemjplaa.G
open Go.RowKit Go.Proofs.YtabcijheemjplaaW.PrintWords Go.Proofs.YtabcijheemjplaaW.PrintLast Go.Proofs.YtabcijheemjplaaW.PrintMore
attribute [local go_sem] QaW QaX Qa8 Qa9 QaM QaN QaY QaZ
set_option linter.unusedVariables false
set_option linter.unusedSimpArgs false
def FineAt (l : List Qae) (i : Nat) (b : Bool) : Prop := ∃ out most, Ev (fun k => Qap.f k l i) (out, most, b)
theorem fine_one {l : List Qae} {i : Nat} {a b : Bool} (h : FineAt l i a) (k : FineAt l i b) : a = b := by
 obtain ⟨o1, m1, h1⟩ := h
 obtain ⟨o2, m2, h2⟩ := k
 have := Ev.unique h1 h2
 simp only [Prod.mk.injEq] at this
 exact this.2.2
theorem deepOk_all_rounds (l : List Qae) (hf : fewI l) (hok : QbF l = true) : ∀ (d i : Nat), l.length - i = d → i ≤ l.length → ∃ b : Bool, Ev (fun k => QaU.l0 k i l) b ∧ Ev (fun k => QaT.l0 k l.length i l) b ∧ (b = true ↔ ∀ j, i ≤ j → j < l.length → FineAt l j true) := by
 have hl1 := hf.1
 intro d
 induction d with
 | zero =>
   intro i hd hi
   exact ⟨true, Ev.step (fun k => by rw [QaU.l0]) (Ev.ifn (by omega) (Ev.bnd (hok ▸ QbI l hf) (Ev.now _))), Ev.step (fun k => by rw [QaT.l0]) (Ev.ifn (by omega) (Ev.now _)), ⟨fun _ j h1 h2 => absurd h2 (by omega), fun _ => rfl⟩⟩
 | succ d ih =>
   intro i hd hi
   rcases deepAt_both l hf i with ⟨h1, h2⟩ | ⟨out, most, -, ha, hI, -, h1, h2⟩
   · refine ⟨false, Ev.step (fun k => by rw [QaU.l0]) (Ev.ifp (by omega) ?_), Ev.step (fun k => by rw [QaT.l0]) (Ev.ifp (by omega) ?_), ⟨fun h => (by cases h), fun h => ?_⟩⟩
     · exact Ev.bnd h1 (Ev.ifn (by simp) (Ev.now _))
     · unfold Qbk.f
       have h3 : Ev (fun k => (Qap.f k l i).bind fun bt102 => (some (bt102.1, bt102.2.2))) ([], false) := Ev.bnd h2 (Ev.now _)
       exact Ev.bnd h3 (Ev.ifn (by simp) (Ev.now _))
     · exact fine_one ⟨_, _, h2⟩ (h i (Nat.le_refl _) (by omega))
   · obtain ⟨b, g1, g2, g3⟩ := ih (i + 1) (by omega) (by omega)
     have ec : ((i + 1 : Nat) : Int) = (i : Int) + 1 := by omega
     refine ⟨b, Ev.step (fun k => by rw [QaU.l0]) (Ev.ifp (by omega) ?_), Ev.step (fun k => by rw [QaT.l0]) (Ev.ifp (by omega) ?_), ⟨fun h j hj1 hj2 => ?_, fun h => g3.2 fun j hj1 hj2 => h j (by omega) hj2⟩⟩
     · refine Ev.bnd h1 (Ev.ifp rfl ?_)
       rw [w64 (by omega) (by omega), ← ec]
       exact g1
     · unfold Qbk.f
       have h3 : Ev (fun k => (Qap.f k l i).bind fun bt102 => (some (bt102.1, bt102.2.2))) (out, true) := Ev.bnd h2 (Ev.now _)
       refine Ev.bnd h3 (Ev.ifp rfl ?_)
       rw [w64 (by omega) (by omega), ← ec]
       exact g2
     · by_cases e : j = i
       · subst e; exact ⟨_, _, h2⟩
       · exact g3.1 h j (by omega) hj2
theorem deepOk_all (l : List Qae) (hf : fewI l) : ∃ b : Bool, Ev (fun k => QaU.f k l) b ∧ Ev (fun k => QaT.f k l) b ∧ (b = true ↔ QbF l = true ∧ ∀ j, j < l.length → FineAt l j true) := by
 cases hok : QbF l with
 | true =>
   obtain ⟨b, h1, h2, h3⟩ := deepOk_all_rounds l hf hok l.length 0 rfl (by omega)
   refine ⟨b, h1, ?_, ⟨fun h => ⟨rfl, fun j hj => h3.1 h j (Nat.zero_le _) hj⟩, fun h => h3.2 fun j _ hj => h.2 j hj⟩⟩
   unfold QaT.f Qbi.f
   rw [hok]
   exact Ev.bindc rfl (Ev.ifp rfl h2)
 | false =>
   refine ⟨false, ?_, ?_, ⟨fun h => (by cases h), fun h => (by cases h.1)⟩⟩
   · unfold QaU.f
     by_cases hz : 0 < l.length
     · rcases deepAt_both l hf 0 with ⟨h1, h2⟩ | ⟨out, most, h, -⟩
       · refine Ev.step (fun k => by rw [QaU.l0]) (Ev.ifp (by omega) ?_)
         exact Ev.bnd h1 (Ev.ifn (by simp) (Ev.now _))
       · rw [hok] at h
         exact absurd h (by simp)
     · exact Ev.step (fun k => by rw [QaU.l0]) (Ev.ifn (by omega) (Ev.bnd (hok ▸ QbI l hf) (Ev.now _)))
   · unfold QaT.f Qbi.f
     rw [hok]
     exact Ev.bindc rfl (Ev.ifn (by simp) (Ev.now _))
theorem specDeepOk_any (A : Option Addr) (c : Nat) (l : List Qae) (b : Bool) (w : World) (hr : Kd.C QaL w A l.length l) (hc : l.length ≤ c) (h : Ev (fun r => QaU.f r l) b) :
 Calls Try.prog 25 #[.agg #[.slice A l.length c]] w fun e w' => e = .returned (.bool b) ∧ Below w.heap.size w w' := by
 obtain ⟨r, hn⟩ := h.rounds
 exact QaU.calls r A c l b w hr hc hn
theorem implDeepOk_any (A : Option Addr) (c : Nat) (l : List Qae) (b : Bool) (w : World) (hr : Kd.C QaL w A l.length l) (hc : l.length ≤ c) (h : Ev (fun r => QaT.f r l) b) :
 Calls Try.prog 23 #[.agg #[.slice A l.length c]] w fun e w' => e = .returned (.bool b) ∧ Below w.heap.size w w' := by
 obtain ⟨r, hn⟩ := h.rounds
 exact QaT.calls r A c l b w hr hc hn
theorem implFine_any (A : Option Addr) (c : Nat) (l : List Qae) (hf : fewI l) (i : Nat) (w : World) (hr : Kd.C QaL w A l.length l) (hc : l.length ≤ c) :
 Calls Try.prog 17 #[.agg #[.slice A l.length c], .int .i64 i] w fun e w' => ∃ v b, e = .returned (.tuple #[v, .bool b]) ∧ FineAt l i b ∧ Below w.heap.size w w' := by
 have h : ∃ out most b, Ev (fun k => Qap.f k l i) (out, most, b) := by
  rcases deepAt_both l hf i with ⟨h1, h2⟩ | ⟨out, most, -, ha, hI, -, h1, h2⟩
  · exact ⟨_, _, _, h2⟩
  · exact ⟨_, _, _, h2⟩
 obtain ⟨out, most, b, h⟩ := h
 refine (implDeepAt_any A c l i out most b w hr hc h).mono ?_
 rintro e w' ⟨A1, c1, rfl, -, -, hB⟩
 exact ⟨_, b, rfl, ⟨_, _, h⟩, hB⟩
set_option maxHeartbeats 4000000 in
set_option maxRecDepth 100000 in
theorem law_FnDeepOk (A0 : Option Addr) (c0 : Nat) (l0 : List Int) (w : World) (hr0 : Kd.C (Kd.int .u8) w A0 l0.length l0) (hc0 : l0.length ≤ c0) (hb : ∀ x, x ∈ l0 → 0 ≤ x ∧ x ≤ 255) :
 Calls Try.prog 5 #[.slice A0 l0.length c0] w fun e w' => e = .returned (.bool true) ∧ Below w.heap.size w w' := by
 have HR := Aside0.mk hr0
 have HB := Aside0.mk hb
 have hm := Kd.C_max hr0
 clear hr0 hb
 by_cases hl : (1048576 : Int) < (l0.length : Int)
 · go_enter Try.func5, Try.ntmps5
   go_wp2
   go_ret
   exact ⟨rfl, Below.refl _ _⟩
 · go_enter Try.func5, Try.ntmps5
   go_upto_region 4 with (go_at_call 22; refine (drawDeepOk_any A0 c0 l0 _ HR.out hc0 (by omega) HB.out).mono ?_; rintro e W1 ⟨A, c, l, rfl, hD, hB1⟩; have B1 := Aside0.mk (Qak hB1 (.cells #[.slice A l.length c] 25)); have D1 := Aside0.mk (hD.alloc (Nat.le_refl _) (.cells #[.slice A l.length c] 25)); clear hD hB1)
   have b3 := heap_alloc_new W1 (.cells #[.slice A l.length c] 25)
   have hsz : W1.heap.size < (W1.alloc (.cells #[.slice A l.length c] 25)).heap.size := by simp
   generalize (W1.alloc (.cells #[.slice A l.length c] 25)) = W at *
   have z3 : W.cell? ⟨W1.heap.size, 0, none⟩ = some (.slice A l.length c) := (Qaf b3 0).trans rfl
   clear b3
   have hfl := Aside0.mk (drawn_few D1.out)
   have hfew := D1.out.few
   obtain ⟨b, hs, hi, hiff⟩ := deepOk_all l hfl.out
   have HS := Aside0.mk hs
   have HI := Aside0.mk hi
   have HF := Aside0.mk hiff
   clear hs hi hiff
   go_upto_region 5 with (go_at_call 23; refine (implDeepOk_any A c l b _ D1.out.now D1.out.cap HI.out).mono ?_; rintro e W2 ⟨rfl, hB2⟩; have y3 := Qa_ hB2 z3; have D2 := Aside0.mk (D1.out.move (w1 := W2) (Nat.le_refl _) (Nat.le_refl _) (fun i _ h => hB2.block i (by omega))); have B2 := Aside0.mk (Qbr B1.out B1.out.size hB2); have h5 : W1.heap.size < W2.heap.size := Nat.lt_of_lt_of_le hsz hB2.size; clear hB2 z3)
   generalize hpo : QbF l = po at *
   have HPO := Aside0.mk hpo
   clear hpo
   go_upto_region 6 with (go_at_call 24; refine (implProgOk_any A c l _ D2.out.now D2.out.cap po HPO.out).mono ?_; rintro e W3 ⟨rfl, hB3⟩; have z5 := Qa_ hB3 y3; have D3 := Aside0.mk (D2.out.move (w1 := W3) (Nat.le_refl _) (Nat.le_refl _) (fun i _ h => hB3.block i (by omega))); have B3 := Aside0.mk (Qbr B2.out B2.out.size hB3); have h6 : W1.heap.size < W3.heap.size := Nat.lt_of_lt_of_le h5 hB3.size; clear hB3 y3)
   go_wp2
   go_loopg [5, 6] l.length (fun gg s5 s6 wr => ∃ (i : Nat) (all : Bool), i ≤ l.length ∧ l.length - i ≤ gg ∧ s5 = .bool all ∧ s6 = .int .i64 i ∧ Aside0 (all = true ↔ po = true ∧ ∀ j, j < i → FineAt l j true) ∧ Aside0 (Below W3.heap.size W3 wr))
   case atStart => exact ⟨0, po, Nat.zero_le _, by omega, rfl, rfl, ⟨⟨fun h => ⟨h, fun j hj => absurd hj (by omega)⟩, fun h => h.1⟩⟩, ⟨Below.refl _ _⟩⟩
   case round =>
    obtain ⟨i, all, hi, hg, rfl, rfl, HA, BW⟩ := hrel
    have y3 := Qa_ BW.out z5
    have BZ := Aside0.mk (Qbr B3.out B3.out.size BW.out)
    have h8 : W1.heap.size < wr.heap.size := Nat.lt_of_lt_of_le h6 BW.out.size
    have Dr := Aside0.mk (D3.out.move (w1 := wr) (Nat.le_refl _) (Nat.le_refl _) (fun i _ h => BW.out.block i (by omega)))
    clear z5
    by_cases hlt : i < l.length
    · have hltz : (i : Int) < (l.length : Int) := by omega
      cases all with
      | true =>
        go_wp2_with (go_at_call 17; refine (implFine_any A c l hfl.out i _ Dr.out.now Dr.out.cap).mono ?_; rintro e W5 ⟨v, bf, rfl, hf, hB5⟩; have BW5 := Aside0.mk (Qbr BW.out BW.out.size hB5); have HFi := Aside0.mk hf; clear hB5 hf)
        go_roundg (l.length - (i + 1))
        case measure => omega
        case rel =>
         refine ⟨i + 1, bf, by omega, Nat.le_refl _, by simp, by go_num, ⟨⟨fun h => ?_, fun h => ?_⟩⟩, BW5⟩
         · obtain ⟨h1, h2⟩ := HA.out.1 (by first | rfl | trivial)
           subst h
           refine ⟨h1, fun j hj => ?_⟩
           by_cases e : j = i
           · subst e; exact HFi.out
           · exact h2 j (by omega)
         · exact fine_one HFi.out (h.2 i (by omega))
      | false =>
        go_wp2_with (go_at_call 17; refine (implFine_any A c l hfl.out i _ Dr.out.now Dr.out.cap).mono ?_; rintro e W5 ⟨v, bf, rfl, hf, hB5⟩; have BW5 := Aside0.mk (Qbr BW.out BW.out.size hB5); clear hB5 hf)
        go_roundg (l.length - (i + 1))
        case measure => omega
        case rel =>
         refine ⟨i + 1, false, by omega, Nat.le_refl _, by simp, by go_num, ⟨⟨fun h => (by cases h), fun h => HA.out.2 ⟨h.1, fun j hj => h.2 j (by omega)⟩⟩⟩, BW5⟩
    · obtain rfl : i = l.length := by omega
      have hab : all = b := by
       have h2 := HF.out
       exact Bool.eq_iff_iff.mpr (HA.out.trans h2.symm)
      subst hab
      cases all with
      | true =>
        go_wp2_with (go_at_call 25; refine (specDeepOk_any A c l _ _ Dr.out.now Dr.out.cap HS.out).mono ?_; rintro e W5 ⟨rfl, hB5⟩; have BW5 := Aside0.mk (Qbr BZ.out BZ.out.size hB5); clear hB5)
        go_ret
        exact ⟨by simp, BW5.out⟩
      | false =>
        go_wp2_with (go_at_call 25; refine (specDeepOk_any A c l _ _ Dr.out.now Dr.out.cap HS.out).mono ?_; rintro e W5 ⟨rfl, hB5⟩; have BW5 := Aside0.mk (Qbr BZ.out BZ.out.size hB5); clear hB5)
        go_ret
        exact ⟨by simp, BW5.out⟩
end Go.Proofs.Ytabcijheemjplaa.G
