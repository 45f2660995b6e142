import Derived.Test.YtabcijheemjplaaK6ca9bb5a
import Derived.Test.YtabcijheemjplaaK5fa15946
import Derived.Test.YtabcijheemjplaaKb8a8e684
import Derived.Test.YtabcijheemjplaaK0afb331e
import Derived.Shelf.Abstract
import Derived.IntWalk
import Derived.Test.YtabcijheemjplaaK4ab2b859
import Derived.Test.YtabcijheemjplaaK28ccba3b
import Derived.Test.YtabcijheemjplaaK9f9fbdef
import Derived.Test.YtabcijheemjplaaK17151cc0
import Derived.Test.YtabcijheemjplaaK92cd82ad
namespace Go.Proofs.Ytabcijheemjplaa.G
open Go.RowKit Go.Proofs.YtabcijheemjplaaW.PrintWords Go.Proofs.YtabcijheemjplaaW.PrintLast Go.Proofs.YtabcijheemjplaaW.PrintMore
attribute [local go_sem] QaQ QaR Qa3 Qa4 QaJ QaK QaS QaT
set_option linter.unusedVariables false
set_option linter.unusedSimpArgs false
set_option maxHeartbeats 4000000 in
theorem drawDeepAt_any (A0 : Option Addr) (c0 : Nat) (l0 : List Int) (w : World) (hr0 : Kd.C (Kd.int .u8) w A0 l0.length l0) (hc0 : l0.length ≤ c0) (hl : l0.length ≤ 1048576) (hb : ∀ x, x ∈ l0 → 0 ≤ x ∧ x ≤ 255) :
 Calls Try.prog 15 #[.slice A0 l0.length c0] w fun e w' => ∃ A c l k, e = .returned (.tuple #[.agg #[.slice A l.length c], .int .i64 k]) ∧ QbT w.heap.size w'.heap.size A c l w' ∧ Below w.heap.size w w' ∧ -10 ≤ k ∧ k ≤ 100 := by
 have HR := Aside0.mk hr0
 have HB := Aside0.mk hb
 clear hr0 hb
 go_enter Try.func15, Try.ntmps15
 go_upto_if 12 with (first | (go_at_call 53; refine (open_any A0 c0 l0 w _ (Qal (Below.refl _ _) _) HR.out hc0 hl HB.out).mono ?_; rintro e W1 ⟨g, s, rfl, hI, hB1, hB2, hc⟩; have I1 := Aside0.mk hI; have B1 := Aside0.mk hB1; have C1 := Aside0.mk hc; have b2 := (hB2.block w.heap.size (by simp)).trans (heap_alloc_new _ _); have N2 := Aside0.mk (hI.ne_blk b2 (by decide)); have B2 := Aside0.mk b2; have G1 := hI.lt; have hs1 := hB2.size; simp only [World.size_alloc] at hs1; clear hI hB1 hB2 hc b2) | (go_at_call 54; refine (prog_any g s 0 w _ I1.out B1.out C1.out (by omega)).mono ?_; rintro e W2 ⟨A, c, l, p1, rfl, hD, hS1, hB1, hK1, hok, hne, hl2, hp1, hp2⟩; have D2 := Aside0.mk ((DrSt.call (DrSt.new I1.out B1.out) hS1 hB1 hK1).alloc (.cells #[.slice A l.length c] 25)); have hs2 := hK1.1; have b2 := hK1.blk B2.out (Ne.symm N2.out) (by simp); have PR := Aside0.mk (⟨hD.alloc (Nat.le_refl _) _, hok, hne, hl2⟩ : QbT _ _ A c l (W2.alloc (.cells #[.slice A l.length c] 25)) ∧ _ ∧ _ ∧ _); clear hS1 hB1 hK1 hD hok hne hl2) | (go_at_call 55; refine (Qb6 g s p1 _ w _ D2.out.st D2.out.bel (C1.out.to hp1) (by omega)).mono ?_; rintro e W3 ⟨r, rfl, ⟨hr0, hr1⟩, hS1, hB1, hK1⟩; have D3 := Aside0.mk (D2.out.call hS1 hB1 hK1); have c3 := hK1.blk (heap_alloc_new W2 _) (by omega) (by simp); have c2 := hK1.blk ((Below.heap_alloc _ _ _ (by omega)).trans b2) (Ne.symm N2.out) (by simp); have HD := Aside0.mk (PR.out.1.keep (by simp) (by omega) hK1); have hs3 := hK1.1; simp only [World.size_alloc] at hs3; clear hS1 hB1 hK1 b2))
 have z3 := (Qaf c3 0).trans rfl
 have f3 := Qaj c3 0
 have E2 := Aside0.mk c2
 have E3 := Aside0.mk c3
 clear c2 c3
 go_cut [] (fun wc => ∃ (A' : Option Addr) (c' : Nat) (l' : List Qae) (p' : Int) (hi : Nat), Aside0 (DrSt w W1 wc g s p') ∧ Aside0 (QbT W1.heap.size hi A' c' l' wc) ∧ Aside0 (hi ≤ wc.heap.size ∧ W2.heap.size < wc.heap.size) ∧ Aside0 (0 ≤ p' ∧ p' ≤ 10000) ∧ Aside0 (wc.heap[w.heap.size]? = some (.cells #[.slice none 0 0] 25 (0, 0))) ∧ Aside0 (wc.heap[W2.heap.size]? = some (.cells #[.slice A' l'.length c'] 25 (0, 0))))
 case first =>
  by_cases r0 : r = 0
  · subst r0
    go_wp2_with (go_at_call 56; refine (l71Bent_any g s (p1 + 1) A c l w _ D3.out.st D3.out.bel (C1.out.to (by omega)) (by omega) HD.out.now (by have := HD.out.few; omega) (by have := PR.out.2.2.2; omega) (fun m hm => ⟨PR.out.2.2.1 m hm, HD.out.ops m hm⟩)).mono ?_; rintro e W4 ⟨A', c', l', p', rfl, hl', hC', hS1, hB1, hK1, hlen, hops, hp3, hp4⟩; have D4 := Aside0.mk (D3.out.call hS1 hB1 hK1); have d2 := hK1.blk E2.out (Ne.symm N2.out) (by simp); have d3 := hK1.blk E3.out (by omega) (by simp); have HD4 := Aside0.mk (⟨hl', hC', by have := (progOkB_few PR.out.2.1).1; omega, hops⟩ : QbT W3.heap.size W4.heap.size A' c' l' W4); have hs4 := hK1.1; have y3 := (Qaf d3 0).trans rfl; have g3 := Qaj d3 0; have F2 := Aside0.mk d2; have F3 := Aside0.mk d3; clear hS1 hB1 hK1 hC' d2 d3)
    go_meet
    refine ⟨A', c', l', p', W4.heap.size, ⟨D4.out.set_ (by omega) _⟩, ⟨(HD4.out.set_ (b := W2.heap.size) (j := 0) (.inl (by omega)) _).move (by omega) (Nat.le_refl _) (fun _ _ _ => rfl)⟩, ⟨by simp, by simp; omega⟩, ⟨by omega, by omega⟩, ⟨(Qa1 (by show w.heap.size ≠ W2.heap.size; omega)).trans F2.out⟩, ⟨by simpa using QbV F3.out 0 (.slice A' l'.length c')⟩⟩
  · have hne : (r == 0) = false := beq_eq_false_iff_ne.mpr r0
    clear r0
    go_wp2
    go_meet
    exact ⟨A, c, l, p1 + 1, W2.heap.size, D3, HD, ⟨by omega, by omega⟩, ⟨by omega, by omega⟩, E2, E3⟩
 case rest =>
  obtain ⟨A', c', l', p', hi, D, HD, HI, PB, E2, E3⟩ := hcut
  have y3 := (Qaf E3.out 0).trans rfl
  have y2 := (Qaf E2.out 0).trans rfl
  have f2 := Qaj E2.out 0
  have hlen := HD.out.few
  have tok1 : True := trivial
  have tok2 : True := trivial
  have n3 : W2.heap.size ≠ g := by omega
  have nb : w.heap.size ≠ W2.heap.size := by omega
  clear z3 f3
  have hpb := PB.out
  go_wp2
  go_region_held3 (fun W' : World => W'.cell? ⟨W2.heap.size, 0, none⟩ = some (.slice A' l'.length c') ∧ True) (go_keep) ((first | (go_at_call 55; have _t := tok1; clear _t tok1; refine (Qb6 g s p' _ w _ (D.out.drewN _).st (D.out.drewN _).bel (C1.out.to hpb.1) (by omega)).mono ?_; rintro e W4 ⟨x, rfl, ⟨hx0, hx1⟩, hS1, hB1, hK1⟩; have D4 := Aside0.mk ((D.out.drewN _).call hS1 hB1 hK1); have y4 := Qbk hK1 n3 y3; have y2' := Qbk hK1 (Ne.symm N2.out) y2; have f2' := QbK hK1 (Ne.symm N2.out) y2 f2; have K4 := Aside0.mk hK1; clear hS1 hB1 hK1) | (go_at_call 55; have _t := tok2; clear _t tok2; refine (Qb6 g s (p' + 1) _ w _ D4.out.st D4.out.bel (C1.out.to (by omega)) (by omega)).mono ?_; rintro e W5 ⟨z, rfl, ⟨hz0, hz1⟩, hS1, hB1, hK1⟩; have D5 := Aside0.mk (D4.out.call hS1 hB1 hK1); have y5 := Qbk hK1 n3 y4; have y2'' := Qbk hK1 (Ne.symm N2.out) y2'; have f2'' := QbK hK1 (Ne.symm N2.out) y2' f2'; have K5 := Aside0.mk hK1; clear hS1 hB1 hK1)))
  go_wp2
  have s4 := K4.out.1
  have s5 := K5.out.1
  refine bodyPost_ret (Qco rfl _ _ w.heap.size 25 #[.slice A' l'.length c'] (0, 0) _ rfl (by simpa using QbV (K5.out.blk (K4.out.blk E2.out (Ne.symm N2.out) (by simp)) (Ne.symm N2.out) (by simp)) 0 (.slice A' l'.length c')) Try.underlying25 rfl (by kernel_rfl)) rfl ?_
  have e1 : IntKind.i64.wrap ((l'.length : Int) + 1) = (l'.length : Int) + 1 := IntWalk.i64_in _ (by omega)
  rw [e1] at hx1
  have hx2 := hx1 (by omega)
  have hz2 := hz1 (by omega)
  have t0 : 0 ≤ Int.tdiv z 8 := Int.tdiv_nonneg hz0 (by omega)
  have t1 : Int.tdiv z 8 ≤ z := Int.tdiv_le_self _ hz0
  refine ⟨A', c', l', _, rfl, (((HD.out.move (Nat.le_refl _) (Nat.le_refl _) (fun _ _ _ => rfl)).keep (by have := HI.out.1; show hi ≤ wc.heap.size; omega) G1 K4.out).keep (by have := HI.out.1; have := s4; simp at this; omega) G1 K5.out |>.set_ (b := w.heap.size) (j := 0) (.inl (by omega)) _).move (by omega) (by have := HI.out.1; simp at s4; simp; omega) (fun _ _ _ => rfl), D5.out.bel.setCell (p := ⟨w.heap.size, 0, none⟩) (Nat.le_refl _) _, ?_, ?_⟩
  · rw [IntWalk.i64_in (Int.tdiv z 8) (by omega), IntWalk.i64_in _ (by omega)]
    omega
  · rw [IntWalk.i64_in (Int.tdiv z 8) (by omega), IntWalk.i64_in _ (by omega)]
    omega
end Go.Proofs.Ytabcijheemjplaa.G
namespace Go.Proofs.Ytabcijheemjplaa.G
open Go.RowKit Go.Proofs.YtabcijheemjplaaW.PrintWords Go.Proofs.YtabcijheemjplaaW.PrintLast Go.Proofs.YtabcijheemjplaaW.PrintMore
attribute [local go_sem] QaQ QaR Qa3 Qa4 QaJ QaK QaS QaT
set_option linter.unusedVariables false
set_option linter.unusedSimpArgs false
theorem implDeepMost_any (A : Option Addr) (c : Nat) (l : List Qae) (k : Int) (out : List Int) (most : Int) (b : Bool) (n : Int) (w : World) (hr : Kd.C QaD w A l.length l) (hc : l.length ≤ c) (h : Ev (fun n => Qak.f n l k) (out, most, b)) (hn : n = if b = true then most else -1) :
 Calls Try.prog 19 #[.agg #[.slice A l.length c], .int .i64 k] w fun e w' => e = .returned (.int .i64 n) ∧ Below w.heap.size w w' := by
 have h2 : Ev (fun r => Qbs.f r l k) n := by
  unfold Qbs.f
  refine Ev.bnd h ?_
  rw [hn]
  cases b
  · exact Ev.ifn (by simp) (Ev.now _)
  · exact Ev.ifp rfl (Ev.now _)
 obtain ⟨r, hr2⟩ := h2.rounds
 exact Qbs.calls r A c l k n w hr hc hr2
end Go.Proofs.Ytabcijheemjplaa.G
namespace Go.Proofs.Ytabcijheemjplaa.G
open Go.RowKit Go.Proofs.YtabcijheemjplaaW.PrintWords Go.Proofs.YtabcijheemjplaaW.PrintLast Go.Proofs.YtabcijheemjplaaW.PrintMore
attribute [local go_sem] QaQ QaR Qa3 Qa4 QaJ QaK QaS QaT
set_option linter.unusedVariables false
set_option linter.unusedSimpArgs false
theorem QbD {α : Type} {c : Prop} [Decidable c] {a a' b b' : α} (h1 : c → a = a') (h2 : ¬ c → b = b') : (if c then a else b) = if c then a' else b' := by
 by_cases h : c
 · rw [if_pos h, if_pos h, h1 h]
 · rw [if_neg h, if_neg h, h2 h]
def SameOps (l l' : List Qae) (ops : List Qac) : Prop := ∀ i : Int, 0 ≤ i → i < ops.length → QbA l (Qah ops i).f0 (Qah ops i).f1 = QbA l' (Qah ops i).f0 (Qah ops i).f1
theorem deep_eq {l l' : List Qae} {ops : List Qac} (hT : SameOps l l' ops) (x y : Int) : ∀ k, (∀ s m t, Qak.l1 k s m t l x y ops = Qak.l1 k s m t l' x y ops) ∧
 (∀ s m t a b c, Qak.j3 k s m t a b c l x y ops = Qak.j3 k s m t a b c l' x y ops) ∧ ∀ s m t b nx n i, Qak.l2 k s m t b nx n i l x y ops = Qak.l2 k s m t b nx n i l' x y ops := by
 intro k
 induction k with
 | zero => exact ⟨fun _ _ _ => rfl, fun _ _ _ _ _ _ => rfl, fun _ _ _ _ _ _ _ => rfl⟩
 | succ k ih =>
   obtain ⟨i1, i3, i2⟩ := ih
   refine ⟨fun s m t => ?_, fun s m t a b c => ?_, fun s m t b nx n i => ?_⟩
   · rw [Qak.l1, Qak.l1]
     refine QbD (fun _ => QbD (fun _ => QbD (fun h0 => QbD (fun h1 => ?_) (fun _ => rfl)) (fun _ => rfl)) (fun _ => rfl)) (fun _ => rfl)
     rw [Qb5, Qb5, hT _ h0 h1]
     simp only [Option.bind_some]
     exact QbD (fun _ => QbD (fun _ => i3 _ _ _ _ _ _) (fun _ => i3 _ _ _ _ _ _)) (fun _ => rfl)
   · rw [Qak.j3, Qak.j3]
     refine QbD (fun _ => rfl) (fun _ => QbD (fun _ => QbD (fun _ => ?_) (fun _ => rfl)) (fun _ => rfl))
     congr 1
     funext z
     exact i2 _ _ _ _ _ _ _
   · rw [Qak.l2, Qak.l2]
     exact QbD (fun _ => QbD (fun _ => QbD (fun _ => QbD (fun _ => rfl) (fun _ => QbD (fun _ => QbD (fun _ => QbD (fun _ => QbD (fun _ => i2 _ _ _ _ _ _ _) (fun _ => rfl)) (fun _ => QbD (fun _ => i2 _ _ _ _ _ _ _) (fun _ => rfl))) (fun _ => rfl)) (fun _ => rfl))) (fun _ => rfl)) (fun _ => rfl)) (fun _ => QbD (fun _ => i1 _ _ _) (fun _ => rfl))
theorem deep_eq0 {l l' : List Qae} {ops : List Qac} (hT : SameOps l l' ops) (x y : Int) : ∀ k s n i, Qak.l0 k s n i l x y ops = Qak.l0 k s n i l' x y ops := by
 intro k
 induction k with
 | zero => exact fun _ _ _ => rfl
 | succ k ih =>
   intro s n i
   rw [Qak.l0, Qak.l0]
   exact QbD (fun _ => QbD (fun _ => QbD (fun _ => ih _ _ _) (fun _ => rfl)) (fun _ => rfl)) (fun _ => QbD (fun _ => (deep_eq hT x y k).1 _ _ _) (fun _ => rfl))
theorem Qcw {l l' : List Qae} {a : Int} (h0 : 0 ≤ a) (h : a < (l.length : Int)) : Qaa (l ++ l') a = Qaa l a := by
 show (l ++ l').getD a.toNat QbH = l.getD a.toNat QbH
 rw [List.getD_eq_getElem?_getD, List.getD_eq_getElem?_getD, List.getElem?_append_left (by omega)]
theorem takes_app {l l' : List Qae} {k a : Int} (h : k = 9 → a < (l.length : Int)) : QbA l k a = QbA (l ++ l') k a := by
 unfold QbA
 refine QbD (fun _ => QbD (fun h9 => ?_) (fun _ => rfl)) (fun _ => rfl)
 have h1 := h h9
 by_cases h0 : 0 ≤ a
 · rw [if_pos ⟨h0, h1⟩, if_pos ⟨h0, by rw [List.length_append]; omega⟩, Qcw h0 h1]
 · rw [if_neg (fun h => h0 h.1), if_neg (fun h => h0 h.1)]
theorem deep_more {l : List Qae} (hok : QbB l = true) (h4 : l.length < 4) {a : Int} (h0 : 0 ≤ a) (h1 : a < l.length) {r : List Int × Int × Bool} (h : Ev (fun k => Qak.f k l a) r) : Ev (fun k => Qak.f k (l ++ [(⟨0, 0, []⟩ : Qae)]) a) r := by
 have hok' := (progOkB_snoc hok).trans (decide_eq_true h4)
 obtain ⟨f1, f4, -, fm⟩ := progOk_facts hok
 have hlen : (l ++ [(⟨0, 0, []⟩ : Qae)]).length = l.length + 1 := by simp
 have key : ∀ k, Qak.f k (l ++ [(⟨0, 0, []⟩ : Qae)]) a = Qak.f k l a := by
  intro k
  unfold Qak.f Qbm.f
  rw [hok, hok', hlen, w64 (by omega) (by omega), w64 (by omega) (by omega)]
  simp only [Option.bind_some, if_true]
  rw [in_tells, in_tells, decide_eq_true (show 0 ≤ a ∧ a ≤ ((l.length + 1 : Nat) : Int) - 1 by omega), decide_eq_true (show 0 ≤ a ∧ a ≤ (l.length : Int) - 1 by omega)]
  simp only [Option.bind_some, if_true]
  rw [if_pos h0, if_pos (by omega), if_pos h0, if_pos h1, Qcw h0 h1]
  cases k with
  | zero => rfl
  | succ k =>
    rw [Qak.j0, Qak.j0, Qcw h0 h1]
    refine QbD (fun _ => rfl) (fun _ => ?_)
    rw [if_pos h0, if_pos (by omega), if_pos h0, if_pos h1]
    refine QbD (fun _ => QbD (fun _ => ?_) (fun _ => rfl)) (fun _ => rfl)
    simp only [Option.bind_some]
    refine (deep_eq0 (fun i hi0 hi1 => takes_app (fun h9 => ?_)) _ _ _ _ _ _).symm
    obtain ⟨n, rfl⟩ := Int.eq_ofNat_of_zero_le h0
    have hm : Qaa l (n : Int) ∈ l := by rw [Qbl (by omega)]; exact List.getElem_mem _
    obtain ⟨j, rfl⟩ := Int.eq_ofNat_of_zero_le hi0
    have hj : j < (Qaa l (n : Int)).f2.length := by omega
    have hop := (fm _ hm).2 _ (List.getElem_mem hj)
    rw [← Qca hj] at hop
    unfold Qb8 at hop
    rw [h9] at hop
    have := of_decide_eq_true hop
    unfold mMost at this
    simp at this
    omega
 have e : (fun k => Qak.f k (l ++ [(⟨0, 0, []⟩ : Qae)]) a) = fun k => Qak.f k l a := funext key
 rw [e]
 exact h
theorem deep_none {l : List Qae} (hok : QbB l = true) (h4 : l.length < 4) : Ev (fun k => Qak.f k (l ++ [(⟨0, 0, []⟩ : Qae)]) l.length) ([], 0, false) := by
 have hok' := (progOkB_snoc hok).trans (decide_eq_true h4)
 have hlen : (l ++ [(⟨0, 0, []⟩ : Qae)]).length = l.length + 1 := by simp
 have hrd : Qaa (l ++ [(⟨0, 0, []⟩ : Qae)]) l.length = ⟨0, 0, []⟩ := by
  rw [Qbl (by omega)]
  simp
 unfold Qak.f Qbm.f
 rw [hok', hlen, w64 (by omega) (by omega)]
 refine Ev.bindc rfl (Ev.ifp rfl (Ev.bindc (in_tells _ _ _) (Ev.ifp (decide_eq_true ⟨by omega, by omega⟩) (Ev.ifp (by omega) (Ev.ifp (by omega) ?_)))))
 rw [hrd]
 exact Ev.step (fun k => by rw [Qak.j0]) (Ev.ifp (by simp) (Ev.now _))
theorem implDeepAt_n (A : Option Addr) (c n : Nat) (l : List Qae) (hn : l.length = n) (k : Int) (out : List Int) (most : Int) (b : Bool) (w : World) (hr : Kd.C QaD w A l.length l) (hc : l.length ≤ c) (h : Ev (fun n => Qak.f n l k) (out, most, b)) :
 Calls Try.prog 17 #[.agg #[.slice A n c], .int .i64 k] w fun e w' => ∃ A1 c1, e = .returned (.tuple #[.slice A1 out.length c1, .bool b]) ∧ out.length ≤ c1 ∧ Kd.C (Kd.int .i64) w' A1 out.length out ∧ Below w.heap.size w w' := by
 subst hn
 exact Qcn A c l k out most b w hr hc h
theorem implDeepMost_n (A : Option Addr) (c n : Nat) (l : List Qae) (hn : l.length = n) (k : Int) (out : List Int) (most : Int) (w : World) (hr : Kd.C QaD w A l.length l) (hc : l.length ≤ c) (h : Ev (fun n => Qak.f n l k) (out, most, true)) :
 Calls Try.prog 19 #[.agg #[.slice A n c], .int .i64 k] w fun e w' => e = .returned (.int .i64 most) ∧ Below w.heap.size w w' := by
 subst hn
 exact implDeepMost_any A c l k out most true most w hr hc h rfl
set_option maxHeartbeats 4000000 in
set_option maxRecDepth 100000 in
theorem law_FnDeepMore (A0 : Option Addr) (c0 : Nat) (l0 : List Int) (w : World) (hr0 : Kd.C (Kd.int .u8) w A0 l0.length l0) (hc0 : l0.length ≤ c0) (hb : ∀ x, x ∈ l0 → 0 ≤ x ∧ x ≤ 255) :
 Calls Try.prog 3 #[.slice A0 l0.length c0] w fun e w' => e = .returned (.bool true) ∧ Below w.heap.size w w' := by
 have HR := Aside0.mk hr0
 have HB := Aside0.mk hb
 have hm := Kd.C_max hr0
 clear hr0 hb
 by_cases hl : (1048576 : Int) < (l0.length : Int)
 · go_enter Try.func3, Try.ntmps3
   go_wp2
   go_ret
   exact ⟨rfl, Below.refl _ _⟩
 · go_enter Try.func3, Try.ntmps3
   go_upto_region 4 with (go_at_call 15; refine (drawDeepAt_any A0 c0 l0 _ HR.out hc0 (by omega) HB.out).mono ?_; rintro e W1 ⟨A, c, l, k, rfl, hD, hB1, hk0, hk1⟩; have B1 := Aside0.mk (Qal hB1 (.cells #[.slice A l.length c] 25)); have D1 := Aside0.mk (hD.alloc (Nat.le_refl _) (.cells #[.slice A l.length c] 25)); clear hD hB1)
   have b3 := heap_alloc_new W1 (.cells #[.slice A l.length c] 25)
   have hsz : W1.heap.size < (W1.alloc (.cells #[.slice A l.length c] 25)).heap.size := by simp
   have hs0 := B1.out.size
   generalize (W1.alloc (.cells #[.slice A l.length c] 25)) = W at *
   have z3 : W.cell? ⟨W1.heap.size, 0, none⟩ = some (.slice A l.length c) := (Qaf b3 0).trans rfl
   have K3 := Aside0.mk b3
   clear b3
   have hfl := drawn_few D1.out
   have hfew := D1.out.few
   rcases deepAt_both l hfl k with ⟨hs, hi⟩ | ⟨out, most, hok, hk, hI, -, hs, hi⟩
   · have HS := Aside0.mk hs
     have HI := Aside0.mk hi
     clear hs hi hfl
     go_upto_region 5 with (go_at_call 16; refine (specDeepAt_any A c l k [] false _ D1.out.now D1.out.cap HS.out).mono ?_; rintro e W2 ⟨Aw, cw, rfl, -, hCw, hB2⟩; have y3 := QaI hB2 z3; have D2 := Aside0.mk (D1.out.move (w1 := W2) (Nat.le_refl _) (Nat.le_refl _) (fun i _ h => hB2.block i (by omega))); have B2 := Aside0.mk (Qa_ B1.out B1.out.size hB2); have CW := Aside0.mk hCw; clear hB2 z3 hCw)
     go_upto_region 6 with (go_at_call 17; refine (Qcn A c l k [] 0 false _ D2.out.now D2.out.cap HI.out).mono ?_; rintro e W3 ⟨At, ct, rfl, -, hCt, hB3⟩; have B3 := Aside0.mk (Qa_ B2.out B2.out.size hB3); have CW3 := Aside0.mk (Kd.C_below CW.out hB3); have CT := Aside0.mk hCt; clear hB3 hCt)
     go_upto_region 7 with (go_at_call 18; refine (lmInts_n _ _ _ _ _ _ [] rfl rfl (by simp) _ CT.out (Nat.zero_le _) CW3.out (Nat.zero_le _)).mono ?_; rintro e W4 ⟨rfl, hB4⟩; have B4 := Aside0.mk (Qa_ B3.out B3.out.size hB4); have CW4 := Aside0.mk (Kd.C_below CW3.out hB4); have CT4 := Aside0.mk (Kd.C_below CT.out hB4); clear hB4)
     go_wp2_with (go_at_call 18; refine (lmInts_n _ _ _ _ _ _ [] rfl rfl (by simp) _ CT4.out (Nat.zero_le _) CW4.out (Nat.zero_le _)).mono ?_; rintro e W5 ⟨rfl, hB5⟩; have B5 := Aside0.mk (Qa_ B4.out B4.out.size hB5); clear hB5)
     go_ret
     exact ⟨rfl, B5.out⟩
   · have HS := Aside0.mk hs
     have HI := Aside0.mk hi
     have HOK := Aside0.mk hok
     obtain ⟨f1, f4, -, fm⟩ := progOk_facts hok
     have hm : Qaa l k ∈ l := by
      obtain ⟨n, rfl⟩ := Int.eq_ofNat_of_zero_le hk.1
      rw [Qbl (by omega)]; exact List.getElem_mem _
     obtain ⟨⟨-, -, -, -, h14⟩, -⟩ := fm _ hm
     have hol : out.length ≤ 1048576 := by have := hI.len; omega
     have hk0' := hk.1
     have hk1' := hk.2
     clear hs hi hfl hI fm hm hok hk h14
     go_upto_region 5 with (go_at_call 16; refine (specDeepAt_any A c l k out true _ D1.out.now D1.out.cap HS.out).mono ?_; rintro e W2 ⟨Aw, cw, rfl, hcw, hCw, hB2⟩; have y3 := QaI hB2 z3; have Y3 := Aside0.mk ((hB2.block _ hsz).trans K3.out); have D2 := Aside0.mk (D1.out.move (w1 := W2) (Nat.le_refl _) (Nat.le_refl _) (fun i _ h => hB2.block i (by omega))); have B2 := Aside0.mk (Qa_ B1.out B1.out.size hB2); have CW := Aside0.mk hCw; have h5 : W1.heap.size < W2.heap.size := Nat.lt_of_lt_of_le hsz hB2.size; clear hB2 z3 hCw)
     go_upto_region 6 with (go_at_call 17; refine (Qcn A c l k out most true _ D2.out.now D2.out.cap HI.out).mono ?_; rintro e W3 ⟨At, ct, rfl, hct, hCt, hB3⟩; have z5 := QaI hB3 y3; have Z3 := Aside0.mk ((hB3.block _ h5).trans Y3.out); have D3 := Aside0.mk (D2.out.move (w1 := W3) (Nat.le_refl _) (Nat.le_refl _) (fun i _ h => hB3.block i (by omega))); have B3 := Aside0.mk (Qa_ B2.out B2.out.size hB3); have CW3 := Aside0.mk (Kd.C_below CW.out hB3); have CT := Aside0.mk hCt; have h6 : W1.heap.size < W3.heap.size := Nat.lt_of_lt_of_le h5 hB3.size; clear hB3 hCt y3)
     by_cases h4 : (4 : Int) ≤ (l.length : Int)
     · go_upto_region 7 with (go_at_call 18; refine (lmInts_n _ _ _ _ _ _ out rfl rfl hol _ CT.out hct CW3.out hcw).mono ?_; rintro e W4 ⟨rfl, hB4⟩; have z6 := QaI hB4 z5; have B4 := Aside0.mk (Qa_ B3.out B3.out.size hB4); have CT4 := Aside0.mk (Kd.C_below CT.out hB4); have CW4 := Aside0.mk (Kd.C_below CW3.out hB4); clear hB4 z5)
       go_wp2_with (go_at_call 18; refine (lmInts_n _ _ _ _ _ _ out rfl rfl hol _ CT4.out hct CW4.out hcw).mono ?_; rintro e W5 ⟨rfl, hB5⟩; have B5 := Aside0.mk (Qa_ B4.out B4.out.size hB5); clear hB5)
       go_ret
       exact ⟨rfl, B5.out⟩
     · have h4n : l.length < 4 := by omega
       have HM := Aside0.mk (deep_more HOK.out h4n hk0' hk1' HI.out)
       have HN := Aside0.mk (deep_none HOK.out h4n)
       go_upto_region 8 with (go_at_call 18; refine (lmInts_n _ _ _ _ _ _ out rfl rfl hol _ CT.out hct CW3.out hcw).mono ?_; rintro e W4 ⟨rfl, hB4⟩; have z6 := QaI hB4 z5; have D4 := Aside0.mk (D3.out.move (w1 := W4) (Nat.le_refl _) (Nat.le_refl _) (fun i _ h => hB4.block i (by omega))); have B4 := Aside0.mk (Qa_ B3.out B3.out.size hB4); have X3 := Aside0.mk ((hB4.block _ h6).trans Z3.out); have CT4 := Aside0.mk (Kd.C_below CT.out hB4); have h7 : W1.heap.size < W4.heap.size := Nat.lt_of_lt_of_le h6 hB4.size; clear hB4 z5)
       have hsz4 := B4.out.size
       have HDF : Aside0 (∀ W_ : World, (∀ k, w.heap.size ≤ k → k < W1.heap.size → W_.heap[k]? = W4.heap[k]?) → Kd.C QaD W_ A l.length l) := Aside0.mk D4.out.held
       go_upto_region 9 with (first | ((with_reducible refine QaH (N := 61) rfl ?_); refine Kd.N_lit QaD w.heap.size 34 ?hg (N' := 61) ?hd (xs := ([] : List Qae)) (inner := []) (w0 := w) (ok := fun k => w.heap.size ≤ k ∧ k ≠ W1.heap.size) (okp := fun _ => False) ?hr ?hp (fun _ hk => hk.elim) ⟨hsz4, by omega⟩ B4.out hsz4 (by simp) ?_; (case hd => rfl); (case hg => rfl); (case hr => first | (go_simp; done) | (go_simp; rfl)); (case hp => exact (Qa9.none _ _)); intro v1 W5 ho hb5 hg_ hat; have x5 := QaU X3.out hg_ (by simp); have hs5 := hg_.size; have E5 := Aside0.mk (Qcj (Below.refl W4.heap.size W4) none (Nat.le_refl _) hg_ (by simp)); have N5 := Aside0.mk ho; have B5 := Aside0.mk hb5; have A5 := Aside0.mk hat; have F5 : Aside0 (Kd.F QaD W5 (fun k => w.heap.size ≤ k ∧ k < W1.heap.size) A l.length l) := Aside0.mk (fun W_ hW => HDF.out W_ (fun k h1 h2 => (hW k ⟨h1, h2⟩ (by omega)).trans (hg_.block k (by omega) (by simp)))); have z8 : W5.cell? ⟨W1.heap.size, 0, none⟩ = some (.slice A l.length c) := (Qaf x5 0).trans rfl; have X5 := Aside0.mk x5; clear ho hb5 hg_ hat x5 z6) | ((with_reducible refine QaW (b := .append) (xs := #[.tmp 61, .tmp 63]) rfl ?_); at_builtin; refine Kd.N_append_rows QaD (w0 := w) w.heap.size rfl (.tmp 61) (.tmp 63) 23 34 (.agg #[.int .i64 0, .int .i64 0, .slice none 0 0]) 40 rfl Try.underlying23 info34 rfl (by decide) (by omega) v1 [] l A _ c (fun k => w.heap.size ≤ k ∧ k ≠ W1.heap.size) (fun k => w.heap.size ≤ k ∧ k < W1.heap.size) rfl rfl N5.out F5.out ?aK ?aF B5.out (by omega) (by simp only [List.length_nil]; omega) ?_; (case aK => intro k hk; obtain ⟨b, hb, hge⟩ := A5.out; exact ⟨⟨hk.1, by omega⟩, by rw [hb]; intro he; injection he with he; omega⟩); (case aF => intro k hk; exact ⟨by omega, by omega⟩); intro v2 W6 ho hb6 hg_ hat; rw [List.nil_append] at ho; have hne1 := own_ne (n := W1.heap.size) A5.out (by omega); have x6 := QaU X5.out hg_ hne1; have hs6 := hg_.size; have E6 := Aside0.mk (Qcj E5.out _ E5.out.size hg_ (fun k hk => (by obtain ⟨b, hb, hge⟩ := A5.out; rw [hb] at hk; injection hk with hk; omega))); have A6 : Aside0 (∀ k, v2.ownBlock = some k → W4.heap.size ≤ k) := Aside0.mk (fun k hk => (by rcases hat with hat | ⟨b, hb, hge⟩; (obtain ⟨b, hb, hge⟩ := A5.out; rw [hat, hb] at hk; injection hk with hk; omega); (rw [hb] at hk; injection hk with hk; omega))); have N6 := Aside0.mk ho; have B6 := Aside0.mk hb6; have hne2 := own_ne2 hat hne1 (by omega); have X6 := Aside0.mk x6; have H2 := Aside0.mk hne2; clear ho hb6 hg_ hat hne1 hne2 x6 z8) | ((with_reducible refine QaW (b := .append) (xs := #[.tmp 64, .tmp 66]) rfl ?_); at_builtin; refine Kd.N_append QaD (w0 := w) w.heap.size rfl (.tmp 64) (.tmp 66) 23 34 (.agg #[.int .i64 0, .int .i64 0, .slice none 0 0]) 40 rfl Try.underlying23 info34 rfl (by decide) (by omega) v2 l ⟨0, 0, []⟩ [.int .i64 0, .int .i64 0, .slice none 0 0] (fun k => w.heap.size ≤ k ∧ k ≠ W1.heap.size) (fun _ => False) rfl rfl (k_impl_Method_mkF _ _ (⟨0, 0, []⟩ : Qae) (Nat.le_refl _) (Kd.F_nil _ _ _)) (fun _ hk => hk.elim) ?aF N6.out B6.out (by omega) (by omega) ?_; (case aF => intro k hk; exact ⟨by omega, by omega⟩); intro v3 W7 ho hb7 hg_ hat; obtain ⟨A3, c3, rfl, hc3, hC3⟩ := Kd.N_reads ho; have x7 := QaU X6.out hg_ H2.out; have hs7 := hg_.size; have E7 := Aside0.mk (Qal (Qcj E6.out _ E6.out.size hg_ A6.out) (.cells #[.slice A3 (l.length + 1) c3] 25)); have C7 := Aside0.mk (Kd.C_alloc hC3 (.cells #[.slice A3 (l.length + 1) c3] 25)); have B7 := Aside0.mk (Qal hb7 (.cells #[.slice A3 (l.length + 1) c3] 25)); have X7 := Aside0.mk x7; clear ho hb7 hg_ hat hC3 x7))
       have b9 := heap_alloc_new W7 (.cells #[.slice A3 (l.length + 1) c3] 25)
       have b3 : (W7.alloc (.cells #[.slice A3 (l.length + 1) c3] 25)).heap[W1.heap.size]? = _ := (Below.heap_alloc _ _ _ (by omega)).trans X7.out
       have hs8 := B7.out.size
       have hs9 : W7.heap.size < (W7.alloc (.cells #[.slice A3 (l.length + 1) c3] 25)).heap.size := by simp
       generalize (W7.alloc (.cells #[.slice A3 (l.length + 1) c3] 25)) = W8 at *
       have y1 : W8.cell? ⟨W1.heap.size, 0, none⟩ = some (.slice A l.length c) := (Qaf b3 0).trans rfl
       have y2 : W8.cell? ⟨W7.heap.size, 0, none⟩ = some (.slice A3 (l.length + 1) c3) := (Qaf b9 0).trans rfl
       have D8 := Aside0.mk (D4.out.move (w1 := W8) (Nat.le_refl _) (Nat.le_refl _) (fun i _ h => E7.out.block i (by omega)))
       have CT8 := Aside0.mk (Kd.C_below CT4.out E7.out)
       have hcap : (l ++ [(⟨0, 0, []⟩ : Qae)]).length ≤ c3 := by simpa using hc3
       have C8 : Aside0 (Kd.C QaD W8 A3 (l ++ [(⟨0, 0, []⟩ : Qae)]).length (l ++ [(⟨0, 0, []⟩ : Qae)])) := Aside0.mk (by have := C7.out; simpa using this)
       have HC := Aside0.mk hcap
       have h8 : W1.heap.size < W8.heap.size := by omega
       clear b9 b3 hcap hs5 hs6 hs7 hs8 hsz4 hsz hs0 h5 h6 h7 hc3
       go_upto_region 10 with (go_at_call 17; refine (implDeepAt_n A3 c3 (l.length + 1) _ (by simp) k out most true _ C8.out HC.out HM.out).mono ?_; rintro e W9 ⟨Ax, cx, rfl, hcx, hCx, hB9⟩; have y3 := QaI hB9 y1; have y4 := QaI hB9 y2; have h9 : W1.heap.size < W9.heap.size := Nat.lt_of_lt_of_le h8 hB9.size; have D9 := Aside0.mk (D8.out.move (w1 := W9) (Nat.le_refl _) (Nat.le_refl _) (fun i _ h => hB9.block i (by omega))); have CT9 := Aside0.mk (Kd.C_below CT8.out hB9); have C9 := Aside0.mk (Kd.C_below C8.out hB9); have CX := Aside0.mk hCx; have B9 := Aside0.mk (Qa_ B7.out B7.out.size hB9); clear hB9 hCx y1 y2)
       go_upto_region 11 with (go_at_call 17; refine (implDeepAt_n A3 c3 (l.length + 1) _ (by simp) l.length [] 0 false _ C9.out HC.out HN.out).mono ?_; rintro e W10 ⟨An, cn, rfl, -, -, hB10⟩; have y5 := QaI hB10 y3; have y6 := QaI hB10 y4; have h10 : W1.heap.size < W10.heap.size := Nat.lt_of_lt_of_le h9 hB10.size; have D10 := Aside0.mk (D9.out.move (w1 := W10) (Nat.le_refl _) (Nat.le_refl _) (fun i _ h => hB10.block i (by omega))); have CT10 := Aside0.mk (Kd.C_below CT9.out hB10); have C10 := Aside0.mk (Kd.C_below C9.out hB10); have CX10 := Aside0.mk (Kd.C_below CX.out hB10); have B10 := Aside0.mk (Qa_ B9.out B9.out.size hB10); clear hB10 y3 y4)
       have tok1 : True := trivial
       go_region_held3 (fun W' : World => W'.cell? ⟨W1.heap.size, 0, none⟩ = some (.slice A l.length c) ∧ W'.cell? ⟨W7.heap.size, 0, none⟩ = some (.slice A3 (l.length + 1) c3)) (go_keep) ((first | (go_at_call 18; refine (lmInts_n _ _ _ _ _ _ out rfl rfl hol _ (Kd.C_drew CX10.out) hcx (Kd.C_drew CT10.out) hct).mono ?_; rintro e W11 ⟨rfl, hB11⟩; have y7 := QaI hB11 y5; have y8 := QaI hB11 y6; have D11 := Aside0.mk (D10.out.move (w1 := W11) (Nat.le_refl _) (Nat.le_refl _) (fun i _ h => hB11.block i (by simp; omega))); have C11 := Aside0.mk (Kd.C_below (Kd.C_drew C10.out) hB11); have h11 : W1.heap.size < W11.heap.size := Nat.lt_of_lt_of_le h10 hB11.size; have B11 := Aside0.mk (Qa_ (QbR B10.out) B10.out.size hB11); clear hB11) | (go_at_call 19; have _t := tok1; clear _t tok1; refine (implDeepMost_n A3 c3 (l.length + 1) _ (by simp) k out most _ C11.out HC.out HM.out).mono ?_; rintro e W12 ⟨rfl, hB12⟩; have y9 := QaI hB12 y7; have y10 := QaI hB12 y8; have D12 := Aside0.mk (D11.out.move (w1 := W12) (Nat.le_refl _) (Nat.le_refl _) (fun i _ h => hB12.block i (by omega))); have B12 := Aside0.mk (Qa_ B11.out B11.out.size hB12); clear hB12) | (go_at_call 19; refine (implDeepMost_n A c l.length _ rfl k out most _ D12.out.now D12.out.cap HI.out).mono ?_; rintro e W13 ⟨rfl, hB13⟩; have y11 := QaI hB13 y9; have y12 := QaI hB13 y10; have B13 := Aside0.mk (Qa_ B12.out B12.out.size hB13); clear hB13)))
       go_wp2
       go_ret
       exact ⟨rfl, B13.out⟩
end Go.Proofs.Ytabcijheemjplaa.G
