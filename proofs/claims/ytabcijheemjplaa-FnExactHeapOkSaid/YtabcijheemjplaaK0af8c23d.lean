import Derived.Test.YtabcijheemjplaaK504cd682
import Derived.Test.YtabcijheemjplaaKa7cc95cd
import Derived.Test.YtabcijheemjplaaK2be0c184
import Derived.Test.YtabcijheemjplaaK71ac883f
import Derived.Test.YtabcijheemjplaaK908b78d3
import Derived.Test.YtabcijheemjplaaKb4693349
import Derived.Laws.EntriesVeiled
import Derived.Test.YtabcijheemjplaaKa386a121
import Derived.Test.YtabcijheemjplaaK60ccce04
namespace Go.Proofs.Ytabcijheemjplaa.G
open Go.RowKit Go.Proofs.YtabcijheemjplaaW.PrintWords Go.Proofs.YtabcijheemjplaaW.PrintLast Go.Proofs.YtabcijheemjplaaW.PrintMore
attribute [local go_sem] Qa3 Qa4 Qbc Qbd QaP QaQ Qa5 Qa6
set_option linter.unusedVariables false
set_option linter.unusedSimpArgs false
def laws_FnExactHeapOk.Pure : Prop := ∀ (x0 : Qcy) (x1 : QbX), wf_laws_Prog x0 → wf_laws_Heap x1 → ∃ k, laws_FnExactHeapOk.f k x0.f0 x1.f0 x1.f1 x1.f2 x1.f3 x1.f4 = some true
end Go.Proofs.Ytabcijheemjplaa.G
namespace Go.Proofs.Ytabcijheemjplaa.G
set_option linter.unusedSimpArgs false
open Go.RowKit Go.Proofs.YtabcijheemjplaaW.PrintWords Go.Proofs.YtabcijheemjplaaW.PrintLast
theorem Qbp (a b c : Int) : Qav.f a b c = some (decide (b ≤ a ∧ a ≤ c)) := by
 unfold Qav.f
 by_cases h : b ≤ a
 · rw [if_pos h]
   simp [h]
 · rw [if_neg h]
   simp [h]
theorem kinds18 {n : Nat} (h1 : 1 ≤ n) (h2 : n ≤ 18) : n = 1 ∨ n = 2 ∨ n = 3 ∨ n = 4 ∨ n = 5 ∨ n = 6 ∨ n = 7 ∨ n = 8 ∨ n = 9 ∨ n = 10 ∨ n = 11 ∨ n = 12 ∨ n = 13 ∨ n = 14 ∨ n = 15 ∨ n = 16 ∨ n = 17 ∨ n = 18 := by omega
theorem l1Op_tells (l : List Qai) (x y : Int) (ops : List QaW) (k a : Int) (hl : l.length ≤ 1048576) (ho : ops.length ≤ 1048576) (hy0 : 0 ≤ y) (hy1 : y ≤ 4) :
 Ev (fun n => QaJ.f n l x y ops k a) (opOkB l.length y ops.length k a) := by
 refine Ev.of (fun n => QaJ.mono _ _ _ _ _ _ n) (k := 4) ?_
 have hw1 : wrap64 (y - 1) = y - 1 := w64 (by omega) (by omega)
 have hw2 : wrap64 ((ops.length : Int) - 1) = (ops.length : Int) - 1 := w64 (by omega) (by omega)
 have hw3 : wrap64 ((l.length : Int) - 1) = (l.length : Int) - 1 := w64 (by omega) (by omega)
 unfold opOkB
 by_cases hk : 1 ≤ k ∧ k ≤ 18
 · rw [if_pos hk]
   obtain ⟨n, rfl⟩ := Int.eq_ofNat_of_zero_le (show 0 ≤ k by omega)
   rcases kinds18 (n := n) (by omega) (by omega) with rfl | rfl | rfl | rfl | rfl | rfl | rfl | rfl | rfl | rfl | rfl | rfl | rfl | rfl | rfl | rfl | rfl | rfl <;>
    simp [QaJ.f, QaJ.j0, QaJ.j1, QaJ.j2, Qbp, hw1, hw2, hw3, mG, mMost] <;> rfl
 · rw [if_neg hk]
   have e1 : ¬ k = 1 := by omega
   have e2 : ¬ k = 2 := by omega
   have e3 : ¬ k = 3 := by omega
   have e7 : ¬ k = 7 := by omega
   have e8 : ¬ k = 8 := by omega
   have e9 : ¬ k = 9 := by omega
   have e13 : ¬ k = 13 := by omega
   have e14 : ¬ k = 14 := by omega
   simp [QaJ.f, QaJ.j0, QaJ.j1, QaJ.j2, Qbp, hw1, hw2, hw3, e1, e2, e3, e7, e8, e9, e13, e14, hk]
theorem l1Method_tells (l : List Qai) (m : Qai) (hl : l.length ≤ 1048576) (hm : m.f2.length ≤ 1048576) : Ev (fun n => Qap.f n l m.f0 m.f1 m.f2) (!QbT l.length m) := by
 unfold Qap.f QbT
 by_cases c1 : 0 ≤ m.f0 ∧ m.f0 ≤ 2
 · refine Ev.bindc (Qbp _ _ _) (Ev.ifp (decide_eq_true c1) ?_)
   by_cases c2 : m.f0 ≤ m.f1 ∧ m.f1 ≤ 4
   · refine Ev.bindc (Qbp _ _ _) (Ev.ifp (decide_eq_true c2) ?_)
     by_cases c3 : m.f2.length ≤ 14
     · rw [if_pos ⟨c1.1, c1.2, c2.1, c2.2, c3⟩]
       refine Ev.step (fun k => by rw [Qap.j0]) (Ev.ifn (by simp; omega) ?_)
       obtain ⟨r, hp, hr⟩ := QcS (σ := Unit) (fun k i _ => Qap.l0 k i l m.f0 m.f1 m.f2) m.f2.length (fun i _ => ∀ (j : Nat) (hj : j < m.f2.length), j < i → opOkB l.length m.f1 m.f2.length m.f2[j].f0 m.f2[j].f1 = true)
        (fun r => r = !(m.f2.any (fun op => !opOkB l.length m.f1 m.f2.length op.f0 op.f1)))
        (fun i _ hi hs => by
         have hop := l1Op_tells l m.f0 m.f1 m.f2 m.f2[i].f0 m.f2[i].f1 hl hm (by omega) (by omega)
         cases ho : opOkB l.length m.f1 m.f2.length m.f2[i].f0 m.f2[i].f1 with
         | false =>
           refine .inl ⟨false, ?_, ?_⟩
           · have : m.f2.any (fun op => !opOkB l.length m.f1 m.f2.length op.f0 op.f1) = true := List.any_eq_true.mpr ⟨m.f2[i], List.getElem_mem hi, by rw [ho]; rfl⟩
             rw [this]
             rfl
           · refine Ev.step (fun k => by rw [Qap.l0]) (Ev.ifp (by omega) (Ev.ifp (by omega) ?_))
             rw [rd_impl_Op_at hi]
             rw [ho] at hop
             exact Ev.bnd hop (Ev.ifn (by simp) (Ev.now _))
         | true =>
           refine .inr ⟨(), fun j hj hji => ?_, fun r hr => ?_⟩
           · by_cases e : j = i
             · subst e; exact ho
             · exact hs j hj (by omega)
           · refine Ev.step (fun k => by rw [Qap.l0]) (Ev.ifp (by omega) (Ev.ifp (by omega) ?_))
             rw [rd_impl_Op_at hi]
             rw [ho] at hop
             refine Ev.bnd hop (Ev.ifp rfl ?_)
             rw [w64 (by omega) (by omega)]
             exact hr)
        (fun _ hs => ⟨true, by
         have : m.f2.any (fun op => !opOkB l.length m.f1 m.f2.length op.f0 op.f1) = false := by
          rw [List.any_eq_false]
          intro op hop
          obtain ⟨j, hj, rfl⟩ := List.mem_iff_getElem.mp hop
          simp [hs j hj hj]
         rw [this]
         rfl, Ev.step (fun k => by rw [Qap.l0]) (Ev.ifn (by omega) (Ev.now _))⟩)
        () (fun j hj h => absurd h (Nat.not_lt_zero _))
       rw [← hp]
       exact hr
     · rw [if_neg (fun h => c3 h.2.2.2.2)]
       refine Ev.step (fun k => by rw [Qap.j0]) ?_
       exact Ev.ifp (by simp; omega) (Ev.now _)
   · rw [if_neg (fun h => c2 ⟨h.2.2.1, h.2.2.2.1⟩)]
     refine Ev.bindc (Qbp _ _ _) (Ev.ifn (by simp only [decide_eq_true_eq]; exact c2) ?_)
     refine Ev.step (fun k => by rw [Qap.j0]) ?_
     exact Ev.ifp rfl (Ev.now _)
 · rw [if_neg (fun h => c1 ⟨h.1, h.2.1⟩)]
   refine Ev.bindc (Qbp _ _ _) (Ev.ifn (by simp only [decide_eq_true_eq]; exact c1) ?_)
   refine Ev.step (fun k => by rw [Qap.j0]) ?_
   exact Ev.ifp rfl (Ev.now _)
theorem specProgOk_tells (l : List Qai) (hl : fewI l) : Ev (fun n => Qax.f n l) (progOkB l) := by
 unfold Qax.f progOkB
 have hl1 := hl.1
 by_cases c1 : 1 ≤ l.length ∧ l.length ≤ 4
 · refine Ev.bindc (Qbp _ _ _) (Ev.ifp (decide_eq_true (by omega)) (Ev.ifp (by omega) ?_))
   by_cases c2 : (Qae l 0).f0 = 0
   · rw [if_pos ⟨c1.1, c1.2, c2⟩]
     refine Ev.step (fun k => by rw [Qax.j0]) (Ev.ifn (by simp [c2]) ?_)
     obtain ⟨r, hp, hr⟩ := QcS (σ := Unit) (fun k i _ => Qax.l0 k i l) l.length (fun i _ => ∀ (j : Nat) (hj : j < l.length), j < i → QbT l.length l[j] = false)
      (fun r => r = !(l.any (QbT l.length)))
      (fun i _ hi hs => by
       have hm := l1Method_tells l l[i] hl1 (hl.2 _ (List.getElem_mem hi))
       cases ho : QbT l.length l[i] with
       | true =>
         refine .inl ⟨false, ?_, ?_⟩
         · have : l.any (QbT l.length) = true := List.any_eq_true.mpr ⟨l[i], List.getElem_mem hi, ho⟩
           rw [this]
           rfl
         · refine Ev.step (fun k => by rw [Qax.l0]) (Ev.ifp (by omega) (Ev.ifp (by omega) ?_))
           rw [Qcq hi]
           rw [ho] at hm
           exact Ev.bnd hm (Ev.ifn (by simp) (Ev.now _))
       | false =>
         refine .inr ⟨(), fun j hj hji => ?_, fun r hr => ?_⟩
         · by_cases e : j = i
           · subst e; exact ho
           · exact hs j hj (by omega)
         · refine Ev.step (fun k => by rw [Qax.l0]) (Ev.ifp (by omega) (Ev.ifp (by omega) ?_))
           rw [Qcq hi]
           rw [ho] at hm
           refine Ev.bnd hm (Ev.ifp rfl ?_)
           rw [w64 (by omega) (by omega)]
           exact hr)
      (fun _ hs => ⟨true, by
       have : l.any (QbT l.length) = false := by
        rw [List.any_eq_false]
        intro op hop
        obtain ⟨j, hj, rfl⟩ := List.mem_iff_getElem.mp hop
        simp [hs j hj hj]
       rw [this]
       rfl, Ev.step (fun k => by rw [Qax.l0]) (Ev.ifn (by omega) (Ev.now _))⟩)
      () (fun j hj h => absurd h (Nat.not_lt_zero _))
     rw [← hp]
     exact hr
   · rw [if_neg (fun h => c2 h.2.2)]
     refine Ev.step (fun k => by rw [Qax.j0]) ?_
     exact Ev.ifp (by simp [c2]) (Ev.now _)
 · rw [if_neg (fun h => c1 ⟨h.1, h.2.1⟩)]
   refine Ev.bindc (Qbp _ _ _) (Ev.ifn (by simp only [decide_eq_true_eq]; omega) ?_)
   refine Ev.step (fun k => by rw [Qax.j0]) ?_
   exact Ev.ifp rfl (Ev.now _)
end Go.Proofs.Ytabcijheemjplaa.G
namespace Go.Proofs.Ytabcijheemjplaa.G
open Go.RowKit Go.Proofs.YtabcijheemjplaaW.PrintWords Go.Proofs.YtabcijheemjplaaW.PrintLast
set_option linter.unusedVariables false
theorem rdVal {l : List Qao} {i : Nat} (h : i < l.length) : Qaw l i = l[i] := rdget h
theorem rdCall {l : List Qas} {i : Nat} (h : i < l.length) : Qaa l i = l[i] := rdget h
theorem Qct (a b c : Int) : Qbm.f a b c = some (decide (b ≤ a ∧ a ≤ c)) := Qbp a b c
theorem QcH (v : Qao) (n : Int) : QbZ.f v.f0 v.f1 n = some (Qb0 v n) := by
 have h := Qcl v n
 rw [← h]
 unfold QbZ.f QbR.f
 split
 · rfl
 · split
   · rw [Qbp, Qct]
     try rfl
   · split
     · rw [Qbp, Qct]
       try rfl
     · rfl
theorem ev_list {α : Type} (L : Nat → Int → Option Bool) (l : List α) (p : α → Bool) (hno : ∀ (i : Nat) (hi : i < l.length), p l[i] = false → Ev (fun k => L k i) false)
 (hyes : ∀ (i : Nat) (hi : i < l.length), p l[i] = true → ∀ r, Ev (fun k => L k ((i : Int) + 1)) r → Ev (fun k => L k i) r) (r : Bool) (hend : (l.all p) = true → Ev (fun k => L k l.length) r) (hfalse : (l.all p) = false → r = false) : Ev (fun k => L k 0) r := by
 obtain ⟨r', hr', h⟩ := QcS (σ := Unit) (fun k i _ => L k i) l.length (fun i _ => ∀ (j : Nat) (hj : j < l.length), j < i → p l[j] = true) (fun r' => r' = r)
  (fun i _ hi hI => by
   cases hp : p l[i] with
   | false =>
     have : l.all p = false := by
      rw [List.all_eq_false]
      exact ⟨l[i], List.getElem_mem hi, by rw [hp]; simp⟩
     exact .inl ⟨false, (hfalse this).symm, hno i hi hp⟩
   | true =>
     refine .inr ⟨(), fun j hj hji => ?_, fun r hr => hyes i hi hp r hr⟩
     by_cases e : j = i
     · subst e; exact hp
     · exact hI j hj (by omega))
  (fun _ hI => ⟨r, rfl, hend (by
   rw [List.all_eq_true]
   intro x hx
   obtain ⟨j, hj, rfl⟩ := List.mem_iff_getElem.mp hx
   exact hI j hj hj)⟩) () (fun j hj h => absurd h (Nat.not_lt_zero _))
 rw [hr'] at h
 exact h
theorem l11Vals_tells (l : List Qao) (n : Int) (hl : l.length ≤ 1048576) : Ev (fun k => QaB.f k l n) (l.all fun v => Qb0 v n) := by
 unfold QaB.f
 refine ev_list (fun k i => QaB.l0 k l n i) l (fun v => Qb0 v n) (fun i hi hp => ?_) (fun i hi hp r hr => ?_) _ (fun h => ?_) id
 · refine Ev.step (fun k => by rw [QaB.l0]) (Ev.ifp (by omega) (Ev.ifp (by omega) ?_))
   rw [rdVal hi]
   exact Ev.bindc ((QcH _ _).trans (by rw [hp])) (Ev.ifn (by simp) (Ev.now _))
 · refine Ev.step (fun k => by rw [QaB.l0]) (Ev.ifp (by omega) (Ev.ifp (by omega) ?_))
   rw [rdVal hi]
   refine Ev.bindc ((QcH _ _).trans (by rw [hp])) (Ev.ifp rfl ?_)
   rw [w64 (by omega) (by omega)]
   exact hr
 · rw [h]
   exact Ev.step (fun k => by rw [QaB.l0]) (Ev.ifn (by omega) (Ev.now _))
theorem l11Said_tells (m : List Qai) (l : List Qao) (hm : m.length ≤ 1048576) (hl : l.length ≤ 1048576) : Ev (fun k => QaC.f k m l) (l.all fun v => Qb0 v m.length) := by
 unfold QaC.f
 have key : ∀ v : Qao, v.f0 = 2 → Qb0 v m.length = decide (0 ≤ v.f1 ∧ v.f1 ≤ (m.length : Int) - 1) := by
  intro v h2
  have h := Qcl v m.length
  unfold QbR.f at h
  rw [if_neg (by omega), if_neg (by omega), if_pos h2, Qct, w64 (by omega) (by omega)] at h
  simpa using h.symm
 have key2 : ∀ v : Qao, ¬ v.f0 = 2 → Qb0 v 0 = Qb0 v m.length := by
  intro v h2
  have h := Qcl v m.length
  have h0 := Qcl v 0
  unfold QbR.f at h h0
  rw [if_neg h2] at h h0
  rw [h] at h0
  exact (Option.some.inj h0).symm
 refine ev_list (fun k i => QaC.l0 k l i m) l (fun v => Qb0 v m.length) (fun i hi hp => ?_) (fun i hi hp r hr => ?_) _ (fun h => ?_) id
 · refine Ev.step (fun k => by rw [QaC.l0]) (Ev.ifp (by omega) (Ev.ifp (by omega) ?_))
   rw [rdVal hi]
   by_cases h2 : l[i].f0 = 2
   · refine Ev.ifp h2 (Ev.bindc (Qbp _ _ _) ?_)
     rw [w64 (by omega) (by omega), ← key _ h2, hp]
     exact Ev.ifn (by simp) (Ev.now _)
   · exact Ev.ifn h2 (Ev.bindc ((QcH _ _).trans (by rw [key2 _ h2, hp])) (Ev.ifn (by simp) (Ev.now _)))
 · refine Ev.step (fun k => by rw [QaC.l0]) (Ev.ifp (by omega) (Ev.ifp (by omega) ?_))
   rw [rdVal hi]
   by_cases h2 : l[i].f0 = 2
   · refine Ev.ifp h2 (Ev.bindc (Qbp _ _ _) ?_)
     rw [w64 (by omega) (by omega), ← key _ h2, hp]
     refine Ev.ifp rfl ?_
     rw [w64 (by omega) (by omega)]
     exact hr
   · refine Ev.ifn h2 (Ev.bindc ((QcH _ _).trans (by rw [key2 _ h2, hp])) (Ev.ifp rfl ?_))
     rw [w64 (by omega) (by omega)]
     exact hr
 · rw [h]
   exact Ev.step (fun k => by rw [QaC.l0]) (Ev.ifn (by omega) (Ev.now _))
def formB (m : List Qai) (n : Nat) (c : Qas) : Bool :=
 decide ((0 ≤ c.f0 ∧ c.f0 ≤ (m.length : Int) - 1) ∧ (0 ≤ c.f1 ∧ c.f1 ≤ ((Qae m c.f0).f2.length : Int)) ∧ (c.f2.length : Int) = (Qae m c.f0).f1 ∧ c.f3.length ≤ 6) &&
  ((c.f2.all fun v => Qb0 v n) && ((c.f3.all fun v => Qb0 v n) && (decide (-1 ≤ c.f4 ∧ c.f4 ≤ (n : Int) - 1) && (!c.f5 || decide (c.f3.length = 0 ∧ c.f4 = -1)))))
theorem formed_tells (m : List Qai) (n : Nat) (c : Qas) (hm : m.length ≤ 1048576) (hn : n ≤ 1048576) : Ev (fun k => Qan.f k c.f0 c.f1 c.f2 c.f3 c.f4 c.f5 m n) (formB m n c) := by
 unfold Qan.f formB
 rw [w64 (by omega) (by omega)]
 have E : ∀ (_ : ¬ ((0 ≤ c.f0 ∧ c.f0 ≤ (m.length : Int) - 1) ∧ (0 ≤ c.f1 ∧ c.f1 ≤ ((Qae m c.f0).f2.length : Int)) ∧ (c.f2.length : Int) = (Qae m c.f0).f1 ∧ c.f3.length ≤ 6)), decide ((0 ≤ c.f0 ∧ c.f0 ≤ (m.length : Int) - 1) ∧ (0 ≤ c.f1 ∧ c.f1 ≤ ((Qae m c.f0).f2.length : Int)) ∧ (c.f2.length : Int) = (Qae m c.f0).f1 ∧ c.f3.length ≤ 6) = false := fun h => decide_eq_false h
 have no : ∀ x41 : Bool, x41 = true → Ev (fun k => Qan.j0 k n x41 c.f0 c.f1 c.f2 c.f3 c.f4 c.f5) false := fun x h => Ev.step (fun k => by rw [Qan.j0]) (Ev.ifp h (Ev.now _))
 refine Ev.bindc (Qct _ _ _) ?_
 by_cases h0 : 0 ≤ c.f0 ∧ c.f0 ≤ (m.length : Int) - 1
 · refine Ev.ifp (decide_eq_true h0) (Ev.ifp h0.1 (Ev.ifp (by omega) (Ev.bindc (Qct _ _ _) ?_)))
   by_cases h1 : 0 ≤ c.f1 ∧ c.f1 ≤ ((Qae m c.f0).f2.length : Int)
   · refine Ev.ifp (decide_eq_true h1) ?_
     by_cases h2 : (c.f2.length : Int) = (Qae m c.f0).f1
     · refine Ev.step (fun k => by rw [Qan.j0]) (Ev.ifn (by simp [h2]) ?_)
       by_cases h3 : c.f3.length ≤ 6
       · rw [decide_eq_true ⟨h0, h1, h2, h3⟩, Bool.true_and]
         refine Ev.ifn (by omega) (Ev.bindc rfl ?_)
         cases (c.f2.all fun v => Qb0 v n) with
         | false => exact Ev.ifn (by simp) (Ev.now _)
         | true =>
           refine Ev.ifp rfl (Ev.bindc rfl ?_)
           cases (c.f3.all fun v => Qb0 v n) with
           | false => exact Ev.ifn (by simp) (Ev.now _)
           | true =>
             refine Ev.ifp rfl (Ev.bindc (Qct _ _ _) ?_)
             rw [w64 (by omega) (by omega)]
             cases decide (-1 ≤ c.f4 ∧ c.f4 ≤ (n : Int) - 1) with
             | false => exact Ev.ifn (by simp) (Ev.now _)
             | true =>
               refine Ev.ifp rfl ?_
               cases c.f5 with
               | false => exact Ev.ifn (by simp) (Ev.now _)
               | true =>
                 refine Ev.ifp rfl ?_
                 by_cases h5 : c.f3.length = 0
                 · refine Ev.ifp (by omega) ?_
                   have e : (c.f4 == -1) = (true && (true && (true && (!true || decide (c.f3.length = 0 ∧ c.f4 = -1))))) := by
                    simp [h5, Bool.beq_eq_decide_eq]
                   rw [e]
                   exact Ev.now _
                 · refine Ev.ifn (by omega) ?_
                   simp [h5]
                   exact Ev.now _
       · rw [E (fun h => h3 h.2.2.2), Bool.false_and]
         exact Ev.ifp (by omega) (Ev.now _)
     · rw [E (fun h => h2 h.2.2.1), Bool.false_and]
       exact no _ (by simpa using h2)
   · rw [E (fun h => h1 h.2.1), Bool.false_and]
     exact Ev.ifn (by rw [decide_eq_false h1]; simp) (no _ rfl)
 · rw [E (fun h => h0 h.1), Bool.false_and]
   exact Ev.ifn (by rw [decide_eq_false h0]; simp) (no _ rfl)
theorem l11Form_tells (m : List Qai) (n : Nat) (c : Qas) (hm : m.length ≤ 1048576) (hn : n ≤ 1048576) (h2s : c.f2.length ≤ 1048576) (h3s : c.f3.length ≤ 1048576) : Ev (fun k => Qat.f k m c.f0 c.f1 c.f2 c.f3 c.f4 c.f5 n) (formB m n c) := by
 unfold Qat.f formB
 rw [w64 (by omega) (by omega)]
 have E : ∀ (_ : ¬ ((0 ≤ c.f0 ∧ c.f0 ≤ (m.length : Int) - 1) ∧ (0 ≤ c.f1 ∧ c.f1 ≤ ((Qae m c.f0).f2.length : Int)) ∧ (c.f2.length : Int) = (Qae m c.f0).f1 ∧ c.f3.length ≤ 6)), decide ((0 ≤ c.f0 ∧ c.f0 ≤ (m.length : Int) - 1) ∧ (0 ≤ c.f1 ∧ c.f1 ≤ ((Qae m c.f0).f2.length : Int)) ∧ (c.f2.length : Int) = (Qae m c.f0).f1 ∧ c.f3.length ≤ 6) = false := fun h => decide_eq_false h
 have no : ∀ x41 : Bool, x41 = true → Ev (fun k => Qat.j0 k n x41 c.f0 c.f1 c.f2 c.f3 c.f4 c.f5) false := fun x h => Ev.step (fun k => by rw [Qat.j0]) (Ev.ifp h (Ev.now _))
 refine Ev.bindc (Qbp _ _ _) ?_
 by_cases h0 : 0 ≤ c.f0 ∧ c.f0 ≤ (m.length : Int) - 1
 · refine Ev.ifp (decide_eq_true h0) (Ev.ifp h0.1 (Ev.ifp (by omega) (Ev.bindc (Qbp _ _ _) ?_)))
   by_cases h1 : 0 ≤ c.f1 ∧ c.f1 ≤ ((Qae m c.f0).f2.length : Int)
   · refine Ev.ifp (decide_eq_true h1) ?_
     by_cases h2 : (c.f2.length : Int) = (Qae m c.f0).f1
     · refine Ev.ifp h2 ?_
       by_cases h3 : c.f3.length ≤ 6
       · refine Ev.step (fun k => by rw [Qat.j0]) (Ev.ifn (by simp; omega) ?_)
         rw [decide_eq_true ⟨h0, h1, h2, h3⟩, Bool.true_and, w64 (by omega) (by omega)]
         refine Ev.bindc (Qbp _ _ _) ?_
         by_cases h4 : -1 ≤ c.f4 ∧ c.f4 ≤ (n : Int) - 1
         · refine Ev.ifp (decide_eq_true h4) (Ev.bnd (l11Vals_tells _ _ h2s) ?_)
           rw [decide_eq_true h4]
           cases (c.f2.all fun v => Qb0 v n) with
           | false => exact Ev.ifn (by simp) (Ev.now _)
           | true =>
             refine Ev.ifp rfl (Ev.bnd (l11Vals_tells _ _ h3s) ?_)
             cases (c.f3.all fun v => Qb0 v n) with
             | false => exact Ev.ifn (by simp) (Ev.now _)
             | true =>
               refine Ev.ifp rfl ?_
               cases c.f5 with
               | false => exact Ev.ifn (by simp) (Ev.now _)
               | true =>
                 refine Ev.ifp rfl ?_
                 by_cases h5 : c.f4 = -1
                 · refine Ev.ifp h5 ?_
                   have e : ((c.f3.length : Int) == 0) = (true && (true && (true && (!true || decide (c.f3.length = 0 ∧ c.f4 = -1))))) := by
                    rw [Bool.eq_iff_iff]
                    simp [h5]
                   rw [e]
                   exact Ev.now _
                 · refine Ev.ifn h5 ?_
                   simp [h5]
                   exact Ev.now _
         · rw [decide_eq_false h4]
           simp only [Bool.false_and, Bool.and_false]
           exact Ev.ifn (by simp) (Ev.now _)
       · rw [E (fun h => h3 h.2.2.2), Bool.false_and]
         exact no _ (by simp; omega)
     · rw [E (fun h => h2 h.2.2.1), Bool.false_and]
       exact Ev.ifn h2 (no _ rfl)
   · rw [E (fun h => h1 h.2.1), Bool.false_and]
     exact Ev.ifn (by rw [decide_eq_false h1]; simp) (no _ rfl)
 · rw [E (fun h => h0 h.1), Bool.false_and]
   exact Ev.ifn (by rw [decide_eq_false h0]; simp) (no _ rfl)
inductive Qcw (cs : List Qas) : Int → List Int → Prop where
 | done {a : Int} : a < 0 → Qcw cs a []
 | next {a : Int} {L : List Int} : 0 ≤ a → a < (cs.length : Int) → (Qaa cs a).f5 = false → Qcw cs (Qaa cs a).f4 L → Qcw cs a (a :: L)
theorem Qcw.unique {cs : List Qas} {a : Int} {L M : List Int} (h : Qcw cs a L) (k : Qcw cs a M) : L = M := by
 induction h generalizing M with
 | done h0 =>
   cases k with
   | done => rfl
   | next h1 => omega
 | next h0 _ _ _ ih =>
   cases k with
   | done h1 => omega
   | next _ _ _ k2 => rw [ih k2]
theorem Qcw.at_ {cs : List Qas} {a : Int} {L : List Int} (h : Qcw cs a L) {x : Int} (hx : x ∈ L) : (0 ≤ x ∧ x < (cs.length : Int) ∧ (Qaa cs x).f5 = false) ∧ ∃ M, Qcw cs x M ∧ M.length ≤ L.length := by
 induction h with
 | done => cases hx
 | @next a L h0 h1 h2 h3 ih =>
   rcases List.mem_cons.1 hx with rfl | hx
   · exact ⟨⟨h0, h1, h2⟩, _, .next h0 h1 h2 h3, Nat.le_refl _⟩
   · obtain ⟨h4, M, h5, h6⟩ := ih hx
     exact ⟨h4, M, h5, by rw [List.length_cons]; omega⟩
theorem Qcw.nodup {cs : List Qas} {a : Int} {L : List Int} (h : Qcw cs a L) : L.Nodup := by
 induction h with
 | done => exact List.nodup_nil
 | @next a L h0 h1 h2 h3 ih =>
   rw [List.nodup_cons]
   refine ⟨fun hm => ?_, ih⟩
   obtain ⟨-, M, h5, h6⟩ := h3.at_ hm
   have := h5.unique (.next h0 h1 h2 h3)
   rw [this, List.length_cons] at h6
   omega
def live (cs : List Qas) : Nat := cs.countP fun c => !c.f5
theorem live_le (cs : List Qas) : live cs ≤ cs.length := List.countP_le_length
theorem live_take {cs : List Qas} {i : Nat} (hi : i < cs.length) : live (cs.take (i + 1)) = live (cs.take i) + if cs[i].f5 = true then 0 else 1 := by
 unfold live
 rw [List.take_succ_eq_append_getElem hi, List.countP_append, List.countP_singleton]
 cases cs[i].f5 <;> rfl
theorem filter_few {L : List Int} (h : L.Nodup) (k : Int) : L.length ≤ (L.filter fun x => decide (x ≠ k)).length + 1 := by
 induction L with
 | nil => simp
 | cons a L ih =>
   rw [List.nodup_cons] at h
   by_cases e : a = k
   · subst e
     have : (L.filter fun x => decide (x ≠ a)) = L := List.filter_eq_self.2 fun x hx => by
      simp only [ne_eq, decide_eq_true_eq]
      intro e
      exact h.1 (e ▸ hx)
     rw [List.filter_cons_of_neg (by simp), this, List.length_cons]
     omega
   · rw [List.filter_cons_of_pos (by simpa using e), List.length_cons, List.length_cons]
     have := ih h.2
     omega
theorem alive_few (cs : List Qas) : ∀ (n : Nat), n ≤ cs.length → ∀ L : List Int, L.Nodup → (∀ x, x ∈ L → 0 ≤ x ∧ x < (n : Int) ∧ (Qaa cs x).f5 = false) → L.length ≤ live (cs.take n) := by
 intro n
 induction n with
 | zero =>
   intro _ L _ h
   cases L with
   | nil => simp
   | cons a L => have := h a List.mem_cons_self; omega
 | succ n ih =>
   intro hn L hd h
   rw [live_take (by omega)]
   have h1 := ih (by omega) (L.filter fun x => decide (x ≠ (n : Int))) (hd.sublist List.filter_sublist) (fun x hx => by
    have h2 := List.mem_filter.1 hx
    have h3 := h x h2.1
    have h4 : x ≠ (n : Int) := by simpa using h2.2
    exact ⟨h3.1, by omega, h3.2.2⟩)
   cases hf : cs[n].f5 with
   | false =>
     rw [if_neg (by simp)]
     have := filter_few hd (n : Int)
     omega
   | true =>
     rw [if_pos rfl]
     have e : (L.filter fun x => decide (x ≠ (n : Int))) = L := List.filter_eq_self.2 fun x hx => by
      simp only [ne_eq, decide_eq_true_eq]
      intro e
      have h3 := (h x hx).2.2
      rw [e, rdCall (by omega), hf] at h3
      cases h3
     rw [e] at h1
     omega
theorem Qcw.few {cs : List Qas} {a : Int} {L : List Int} (h : Qcw cs a L) : L.length ≤ live cs := by
 have := alive_few cs cs.length (Nat.le_refl _) L h.nodup (fun x hx => (h.at_ hx).1)
 rwa [List.take_length] at this
theorem chain_spec (cs : List Qas) (nw bn : Int) (sd : List Qao) (cd : Int) (hl : cs.length ≤ 1048576) : ∀ (d : Nat) (acc : List Int) (a : Int), acc.length + d = cs.length →
 (∃ L, Qcw cs a L ∧ L.length ≤ d ∧ Ev (fun k => Qau.l0 k acc a cs nw bn sd cd) (acc ++ L)) ∨ ((¬ ∃ L, Qcw cs a L ∧ L.length ≤ d) ∧ Ev (fun k => Qau.l0 k acc a cs nw bn sd cd) []) := by
 intro d
 induction d with
 | zero =>
   intro acc a hd
   by_cases ha : a ≥ 0
   · refine .inr ⟨fun ⟨L, h, hL⟩ => ?_, Ev.step (fun k => by rw [Qau.l0]) (Ev.ifp ha (Ev.ifp (by omega) (Ev.now _)))⟩
     cases h with
     | done h0 => omega
     | next => simp at hL
   · exact .inl ⟨[], .done (by omega), Nat.le_refl _, by rw [List.append_nil]; exact Ev.step (fun k => by rw [Qau.l0]) (Ev.ifn ha (Ev.now _))⟩
 | succ d ih =>
   intro acc a hd
   by_cases ha : a ≥ 0
   · by_cases hb : a ≥ (cs.length : Int)
     · refine .inr ⟨fun ⟨L, h, hL⟩ => ?_, Ev.step (fun k => by rw [Qau.l0]) (Ev.ifp ha (Ev.ifn (by omega) (Ev.ifp hb (Ev.now _))))⟩
       cases h with
       | done h0 => omega
       | next h0 h1 => omega
     · cases hf : (Qaa cs a).f5 with
       | true =>
         refine .inr ⟨fun ⟨L, h, hL⟩ => ?_, Ev.step (fun k => by rw [Qau.l0]) (Ev.ifp ha (Ev.ifn (by omega) (Ev.ifn hb (Ev.ifp (by omega) (Ev.ifp (by omega) (Ev.ifp hf (Ev.now _)))))))⟩
         cases h with
         | done h0 => omega
         | next h0 h1 h2 =>
           rw [hf] at h2
           cases h2
       | false =>
         have go : ∀ r, Ev (fun k => Qau.l0 k (acc ++ [a]) (Qaa cs a).f4 cs nw bn sd cd) r → Ev (fun k => Qau.l0 k acc a cs nw bn sd cd) r := fun r hr =>
          Ev.step (fun k => by rw [Qau.l0]) (Ev.ifp ha (Ev.ifn (by omega) (Ev.ifn hb (Ev.ifp (by omega) (Ev.ifp (by omega) (Ev.ifn (by rw [hf]; simp) (Ev.ifp (by omega) hr)))))))
         rcases ih (acc ++ [a]) (Qaa cs a).f4 (by simp; omega) with ⟨L, h1, h2, h3⟩ | ⟨h1, h2⟩
         · refine .inl ⟨a :: L, .next ha (by omega) hf h1, by rw [List.length_cons]; omega, go _ ?_⟩
           rw [List.append_assoc] at h3
           exact h3
         · refine .inr ⟨fun ⟨L, h, hL⟩ => ?_, go _ h2⟩
           cases h with
           | done h0 => omega
           | next _ _ _ h4 => exact h1 ⟨_, h4, by rw [List.length_cons] at hL; omega⟩
   · exact .inl ⟨[], .done (by omega), Nat.zero_le _, by rw [List.append_nil]; exact Ev.step (fun k => by rw [Qau.l0]) (Ev.ifn ha (Ev.now _))⟩
theorem l11Chain_tells (cs : List Qas) (nw bn : Int) (sd : List Qao) (cd : Int) (hl : cs.length ≤ 1048576) :
 (∃ L, Qcw cs nw L ∧ Ev (fun k => Qau.f k cs nw bn sd cd) L) ∨ ((¬ ∃ L, Qcw cs nw L) ∧ Ev (fun k => Qau.f k cs nw bn sd cd) []) := by
 unfold Qau.f
 rcases chain_spec cs nw bn sd cd hl cs.length [] nw (by simp) with ⟨L, h1, -, h3⟩ | ⟨h1, h2⟩
 · exact .inl ⟨L, h1, h3⟩
 · exact .inr ⟨fun ⟨L, h⟩ => h1 ⟨L, h, Nat.le_trans h.few (live_le cs)⟩, h2⟩
def Room (cs : List Qas) (nw : Int) (L : List Int) : Prop := ∀ x, x ∈ L → x = nw ∨ (Qaa cs x).f3.length ≠ 6
theorem chain_impl (cs : List Qas) (nw bn : Int) (sd : List Qao) (cd : Int) (hl : cs.length ≤ 1048576) (hs : ∀ i : Int, 0 ≤ i → i < (cs.length : Int) → -1 ≤ (Qaa cs i).f4 ∧ (Qaa cs i).f4 < (cs.length : Int)) :
 ∀ (d : Nat) (a : Int), d ≤ 1048576 → a < (cs.length : Int) → ∃ b : Bool, Ev (fun k => Qak.l1 k d a cs nw bn sd cd) b ∧ (b = true ↔ ∃ L, Qcw cs a L ∧ L.length = d ∧ Room cs nw L) := by
 intro d
 induction d with
 | zero =>
   intro a _ hb
   by_cases ha : a ≥ 0
   · refine ⟨false, Ev.step (fun k => by rw [Qak.l1]) (Ev.ifp ha (Ev.ifp ha (Ev.ifp hb (Ev.ifp (by rw [w64 (by omega) (by omega)]; omega) (Ev.now _))))), ⟨fun h => (by cases h), fun ⟨L, h, hL, _⟩ => ?_⟩⟩
     cases h with
     | done h0 => omega
     | next => simp at hL
   · exact ⟨true, Ev.step (fun k => by rw [Qak.l1]; exact if_neg ha) (Ev.now _), ⟨fun _ => ⟨[], .done (by omega), rfl, fun x hx => by cases hx⟩, fun _ => rfl⟩⟩
 | succ d ih =>
   intro a hd hb
   by_cases ha : a ≥ 0
   · have hw : wrap64 (((d + 1 : Nat) : Int) - 1) = (d : Int) := by rw [w64 (by omega) (by omega)]; omega
     cases hf : (Qaa cs a).f5 with
     | true =>
       refine ⟨false, Ev.step (fun k => by rw [Qak.l1]) (Ev.ifp ha (Ev.ifp ha (Ev.ifp hb (Ev.ifn (by rw [hw]; omega) (Ev.ifp hf (Ev.now _)))))), ⟨fun h => (by cases h), fun ⟨L, h, _⟩ => ?_⟩⟩
       cases h with
       | done h0 => omega
       | next _ _ h2 =>
         rw [hf] at h2
         cases h2
     | false =>
       have hfn : ¬ (Qaa cs a).f5 = true := by rw [hf]; simp
       obtain ⟨b, h1, h2⟩ := ih (Qaa cs a).f4 (by omega) (hs a ha hb).2
       have iff0 : (a = nw ∨ (Qaa cs a).f3.length ≠ 6) → (b = true ↔ ∃ L, Qcw cs a L ∧ L.length = d + 1 ∧ Room cs nw L) := by
        intro hroom
        rw [h2]
        constructor
        · rintro ⟨L, g1, g2, g3⟩
          exact ⟨a :: L, .next ha hb hf g1, by rw [List.length_cons, g2], fun x hx => by
           rcases List.mem_cons.1 hx with rfl | hx
           · exact hroom
           · exact g3 x hx⟩
        · rintro ⟨L, g1, g2, g3⟩
          cases g1 with
          | done h0 => omega
          | next _ _ _ g4 => exact ⟨_, g4, by simpa using g2, fun x hx => g3 x (List.mem_cons_of_mem _ hx)⟩
       by_cases hnw : a = nw
       · refine ⟨b, Ev.step (fun k => by rw [Qak.l1]) (Ev.ifp ha (Ev.ifp ha (Ev.ifp hb (Ev.ifn (by rw [hw]; omega) (Ev.ifn hfn (Ev.ifp hnw ?_)))))), iff0 (.inl hnw)⟩
         rw [hw]
         exact h1
       · by_cases h6 : ((Qaa cs a).f3.length : Int) = 6
         · refine ⟨false, Ev.step (fun k => by rw [Qak.l1]) (Ev.ifp ha (Ev.ifp ha (Ev.ifp hb (Ev.ifn (by rw [hw]; omega) (Ev.ifn hfn (Ev.ifn hnw (Ev.ifp h6 (Ev.now _)))))))), ⟨fun h => (by cases h), fun ⟨L, h, _, hR⟩ => ?_⟩⟩
           cases h with
           | done h0 => omega
           | next =>
             rcases hR a List.mem_cons_self with h | h
             · exact absurd h hnw
             · exact absurd (by omega) h
         · refine ⟨b, Ev.step (fun k => by rw [Qak.l1]) (Ev.ifp ha (Ev.ifp ha (Ev.ifp hb (Ev.ifn (by rw [hw]; omega) (Ev.ifn hfn (Ev.ifn hnw (Ev.ifn h6 ?_))))))), iff0 (.inr (by omega))⟩
           rw [hw]
           exact h1
   · refine ⟨false, ?_, ⟨fun h => (by cases h), fun ⟨L, h, hL, _⟩ => ?_⟩⟩
     · have e : (((d + 1 : Nat) : Int) == 0) = false := by simp; omega
       have := Ev.now (((d + 1 : Nat) : Int) == 0)
       rw [e] at this
       refine Ev.step (fun k => by rw [Qak.l1]) (Ev.ifn ha ?_)
       rw [e]
       exact this
     · cases h with
       | done h0 => simp at hL
       | next h0 => omega
structure HOk (m : List Qai) (cs : List Qas) (nw bn : Int) (sd : List Qao) (cd : Int) : Prop where
 prog : progOkB m = true
 now : -1 ≤ nw ∧ nw ≤ (cs.length : Int) - 1
 told : toldB m.length bn sd cd (nw == -1) = true
 born : (cs.length : Int) ≤ bn
 form : ∀ c, c ∈ cs → formB m cs.length c = true
 chain : ∃ L, Qcw cs nw L ∧ L.length = live cs ∧ Room cs nw L
def SmallCs (cs : List Qas) : Prop := cs.length ≤ 1048576 ∧ ∀ c, c ∈ cs → c.f2.length ≤ 1048576 ∧ c.f3.length ≤ 1048576
theorem formB_sender {m : List Qai} {n : Nat} {c : Qas} (h : formB m n c = true) : -1 ≤ c.f4 ∧ c.f4 ≤ (n : Int) - 1 := by
 unfold formB at h
 simp only [Bool.and_eq_true] at h
 exact of_decide_eq_true h.2.2.2.1
theorem implHeapOk_tells (m : List Qai) (cs : List Qas) (nw bn : Int) (sd : List Qao) (cd : Int) (hm : fewI m) (hc : SmallCs cs) :
 ∃ b : Bool, Ev (fun k => Qak.f k m cs nw bn sd cd) b ∧ (b = true ↔ HOk m cs nw bn sd cd) := by
 have hl := hc.1
 have hml := hm.1
 have no : ∀ x, x = true → Ev (fun k => Qak.j0 k x m cs nw bn sd cd) false := fun x h => Ev.step (fun k => by rw [Qak.j0]) (Ev.ifp h (Ev.now _))
 unfold Qak.f
 cases hp : progOkB m with
 | false => exact ⟨false, Ev.bindc (show QbD.f m = some false by unfold QbD.f; rw [hp]) (Ev.ifn (by simp) (no _ rfl)), ⟨fun h => (by cases h), fun h => (by have := h.prog; rw [hp] at this; exact this)⟩⟩
 | true =>
   have hp1 : QbD.f m = some true := by unfold QbD.f; rw [hp]
   by_cases hn : -1 ≤ nw ∧ nw ≤ (cs.length : Int) - 1
   · have hn1 : Qbm.f nw (-1) (wrap64 ((cs.length : Int) - 1)) = some true := by rw [w64 (by omega) (by omega), Qct, decide_eq_true hn]
     cases ht : toldB m.length bn sd cd (nw == -1) with
     | false => exact ⟨false, Ev.bindc hp1 (Ev.ifp rfl (Ev.bindc hn1 (Ev.ifp rfl (Ev.bindc (show QbJ.f m bn sd cd (nw == -1) = some false by unfold QbJ.f; rw [ht]) (Ev.ifn (by simp) (no _ rfl)))))), ⟨fun h => (by cases h), fun h => (by have := h.told; rw [ht] at this; exact this)⟩⟩
     | true =>
       have ht1 : QbJ.f m bn sd cd (nw == -1) = some true := by unfold QbJ.f; rw [ht]
       have go : ∀ r, Ev (fun k => Qak.j0 k (decide ((cs.length : Int) > bn)) m cs nw bn sd cd) r → Ev (fun k => (QbD.f m).bind fun t103 => (if t103 = true then ((Qbm.f nw (-1) (wrap64 ((cs.length : Int) - 1))).bind fun t104 => (if t104 = true then ((QbJ.f m bn sd cd (nw == (-1))).bind fun t105 => (if t105 = true then (Qak.j0 k (decide ((cs.length : Int) > bn)) m cs nw bn sd cd) else (Qak.j0 k true m cs nw bn sd cd))) else (Qak.j0 k true m cs nw bn sd cd))) else (Qak.j0 k true m cs nw bn sd cd))) r :=
        fun r hr => Ev.bindc hp1 (Ev.ifp rfl (Ev.bindc hn1 (Ev.ifp rfl (Ev.bindc ht1 (Ev.ifp rfl hr)))))
       by_cases hb : (cs.length : Int) ≤ bn
       ·
        obtain ⟨b, hb1, hb2⟩ := QcS (σ := Int) (fun k i s => Qak.l0 k s cs (cs.length : Int) i m cs nw bn sd cd) cs.length
         (fun i s => s = (live (cs.take i) : Int) ∧ ∀ (j : Nat) (hj : j < cs.length), j < i → formB m cs.length cs[j] = true) (fun b : Bool => b = true ↔ (∀ c, c ∈ cs → formB m cs.length c = true) ∧ ∃ L, Qcw cs nw L ∧ L.length = live cs ∧ Room cs nw L)
         (fun i s hi ⟨hs, hI⟩ => by
          have hci := hc.2 _ (List.getElem_mem hi)
          have hform := formed_tells m cs.length cs[i] hml hl
          cases hfm : formB m cs.length cs[i] with
          | false =>
            rw [hfm] at hform
            refine .inl ⟨false, ⟨fun h => (by cases h), fun h => (by have := h.1 _ (List.getElem_mem hi); rw [hfm] at this; exact this)⟩, ?_⟩
            refine Ev.step (fun k => by rw [Qak.l0]) (Ev.ifp (by omega) (Ev.ifp (by omega) (Ev.ifp (by omega) ?_)))
            rw [rdCall hi]
            exact Ev.bnd hform (Ev.ifn (by simp) (Ev.now _))
          | true =>
            rw [hfm] at hform
            have hlt := live_take hi
            have hle : live (cs.take i) ≤ i := Nat.le_trans (live_le _) (by rw [List.length_take]; omega)
            refine .inr ⟨(live (cs.take (i + 1)) : Int), ⟨rfl, fun j hj hji => ?_⟩, fun r hr => ?_⟩
            · by_cases e : j = i
              · subst e; exact hfm
              · exact hI j hj (by omega)
            · refine Ev.step (fun k => by rw [Qak.l0]) (Ev.ifp (by omega) (Ev.ifp (by omega) (Ev.ifp (by omega) ?_)))
              rw [rdCall hi]
              refine Ev.bnd hform (Ev.ifp rfl ?_)
              rw [w64 (x := (i : Int) + 1) (by omega) (by omega)]
              rw [hlt] at hr
              by_cases hd : cs[i].f5 = true
              · rw [if_pos hd] at hr
                rw [hs]
                exact Ev.ifp hd hr
              · rw [if_neg hd] at hr
                refine Ev.ifn hd ?_
                rw [hs, w64 (by omega) (by omega)]
                exact hr)
         (fun s ⟨hs, hI⟩ => by
          have hall : ∀ c, c ∈ cs → formB m cs.length c = true := fun c hc' => by
           obtain ⟨j, hj, rfl⟩ := List.mem_iff_getElem.mp hc'
           exact hI j hj hj
          rw [List.take_length] at hs
          obtain ⟨b, g1, g2⟩ := chain_impl cs nw bn sd cd hl (fun i h0 h1 => by
           obtain ⟨j, rfl⟩ := Int.eq_ofNat_of_zero_le h0
           rw [rdCall (by omega)]
           have := formB_sender (hall _ (List.getElem_mem (show j < cs.length by omega)))
           omega) (live cs) nw (Nat.le_trans (live_le cs) hl) (by omega)
          refine ⟨b, g2.trans ⟨fun h => ⟨hall, h⟩, fun h => h.2⟩, Ev.step (fun k => by rw [Qak.l0]) (Ev.ifn (by omega) ?_)⟩
          rw [hs]
          exact g1)
         0 ⟨by simp [live], fun j hj h => absurd h (Nat.not_lt_zero _)⟩
        refine ⟨b, go _ (Ev.step (fun k => by rw [Qak.j0]) (Ev.ifn (by simp; omega) hb2)), hb1.trans ⟨fun h => ⟨hp, hn, ht, hb, h.1, h.2⟩, fun h => ⟨h.form, h.chain⟩⟩⟩
       · exact ⟨false, go _ (no _ (by simp; omega)), ⟨fun h => (by cases h), fun h => absurd h.born hb⟩⟩
   · have hn1 : Qbm.f nw (-1) (wrap64 ((cs.length : Int) - 1)) = some false := by rw [w64 (by omega) (by omega), Qct, decide_eq_false hn]
     exact ⟨false, Ev.bindc hp1 (Ev.ifp rfl (Ev.bindc hn1 (Ev.ifn (by simp) (no _ rfl)))), ⟨fun h => (by cases h), fun h => absurd h.now hn⟩⟩
theorem wait_tells (cs : List Qas) (nw bn : Int) (sd : List Qao) (cd : Int) (hl : cs.length ≤ 1048576) (h6 : ∀ c, c ∈ cs → c.f3.length ≤ 6) {L : List Int} (hL : Qcw cs nw L) :
 ∃ b : Bool, Ev (fun k => QaF.l0 k L 1 cs nw bn sd cd) b ∧ (b = true ↔ Room cs nw L) := by
 have hn := Nat.le_trans (Nat.le_trans hL.few (live_le cs)) hl
 have hmem : ∀ (i : Nat) (hi : i < L.length), 0 ≤ L[i] ∧ L[i] < (cs.length : Int) := fun i hi => by
  have := (hL.at_ (List.getElem_mem hi)).1
  exact ⟨this.1, this.2.1⟩
 cases hL with
 | done h0 => exact ⟨true, Ev.step (fun k => by rw [QaF.l0]) (Ev.ifn (by simp) (Ev.now _)), ⟨fun _ x hx => (by cases hx), fun _ => rfl⟩⟩
 | @next _ M g0 g1 g2 g3 =>
   obtain ⟨r, hr, h⟩ := ev_for (σ := Unit) (fun k i _ => QaF.l0 k (nw :: M) i cs nw bn sd cd) (nw :: M).length
    (fun i _ => 1 ≤ i ∧ ∀ (j : Nat) (hj : j < (nw :: M).length), 1 ≤ j → j < i → (Qaa cs (nw :: M)[j]).f3.length ≠ 6) (fun b : Bool => b = true ↔ Room cs nw (nw :: M))
    (fun i _ hi ⟨h1, hI⟩ => by
     have hm := hmem i hi
     have e : rd (nw :: M) (i : Int) = (nw :: M)[i] := by unfold rd; exact rdget hi
     have h6' : (Qaa cs (nw :: M)[i]).f3.length ≤ 6 := by
      obtain ⟨n, hn⟩ := Int.eq_ofNat_of_zero_le hm.1
      have hm2 := hm.2
      rw [hn] at hm2 ⊢
      rw [rdCall (by omega)]
      exact h6 _ (List.getElem_mem _)
     by_cases hc : (Qaa cs (nw :: M)[i]).f3.length = 6
     · refine .inl ⟨false, ⟨fun h => (by cases h), fun h => ?_⟩, ?_⟩
       · rcases h _ (List.getElem_mem hi) with h | h
         · have hnd := (Qcw.next g0 g1 g2 g3).nodup
           obtain ⟨i', rfl⟩ : ∃ i', i = i' + 1 := ⟨i - 1, by omega⟩
           rw [List.nodup_cons] at hnd
           exact absurd (h ▸ List.getElem_mem (by simpa using hi)) hnd.1
         · exact absurd hc h
       · refine Ev.step (fun k => by rw [QaF.l0]) (Ev.ifp (by omega) (Ev.ifp (by omega) ?_))
         rw [e]
         exact Ev.ifp hm.1 (Ev.ifp hm.2 (Ev.ifp (by omega) (Ev.now _)))
     · refine .inr ⟨(), ⟨by omega, fun j hj hj1 hji => ?_⟩, fun r hr => ?_⟩
       · by_cases e' : j = i
         · subst e'; exact hc
         · exact hI j hj hj1 (by omega)
       · refine Ev.step (fun k => by rw [QaF.l0]) (Ev.ifp (by omega) (Ev.ifp (by omega) ?_))
         rw [e]
         refine Ev.ifp hm.1 (Ev.ifp hm.2 (Ev.ifn (by omega) ?_))
         rw [w64 (by omega) (by omega)]
         exact hr)
    (fun _ ⟨_, hI⟩ => ⟨true, ⟨fun _ x hx => by
     obtain ⟨j, hj, rfl⟩ := List.mem_iff_getElem.mp hx
     by_cases e : j = 0
     · subst e; exact .inl rfl
     · exact .inr (hI j hj (by omega) hj), fun _ => rfl⟩, Ev.step (fun k => by rw [QaF.l0]) (Ev.ifn (by omega) (Ev.now _))⟩)
    ((nw :: M).length - 1) 1 () (by omega) (by simp) ⟨Nat.le_refl _, fun j hj h1 h2 => absurd h2 (by omega)⟩
   exact ⟨r, h, hr⟩
theorem formB_six {m : List Qai} {n : Nat} {c : Qas} (h : formB m n c = true) : c.f3.length ≤ 6 := by
 unfold formB at h
 simp only [Bool.and_eq_true] at h
 exact (of_decide_eq_true h.1).2.2.2
theorem specHeapOk_tells (m : List Qai) (cs : List Qas) (nw bn : Int) (sd : List Qao) (cd : Int) (hm : fewI m) (hc : SmallCs cs) (hsd : sd.length ≤ 1048576) :
 ∃ b : Bool, Ev (fun k => Qah.f k m cs nw bn sd cd) b ∧ (b = true ↔ HOk m cs nw bn sd cd) := by
 have hl := hc.1
 have hml := hm.1
 have no : ∀ x, x = true → Ev (fun k => Qah.j0 k (cs.length : Int) x m cs nw bn sd cd) false := fun x h => Ev.step (fun k => by rw [Qah.j0]) (Ev.ifp h (Ev.now _))
 have hw : wrap64 ((cs.length : Int) - 1) = (cs.length : Int) - 1 := w64 (by omega) (by omega)
 have told0 : toldB m.length bn sd cd (nw == -1) = (decide (1 ≤ bn ∧ bn ≤ 30) && ((sd.all fun v => Qb0 v m.length) && (decide (0 ≤ cd ∧ cd ≤ 3) && ((cd == 1) == (nw == -1))))) := rfl
 unfold Qah.f
 rw [hw]
 have hspec := specProgOk_tells m hm
 cases hp : progOkB m with
 | false => exact ⟨false, Ev.bnd (hp ▸ hspec) (Ev.ifn (by simp) (no _ rfl)), ⟨fun h => (by cases h), fun h => (by have := h.prog; rw [hp] at this; exact this)⟩⟩
 | true =>
   by_cases hn : -1 ≤ nw ∧ nw ≤ (cs.length : Int) - 1
   · have hn1 := (Qbp nw (-1) ((cs.length : Int) - 1)).trans (congrArg some (decide_eq_true hn))
     by_cases hb1 : 1 ≤ bn ∧ bn ≤ 30
     · have hb2 := (Qbp bn 1 30).trans (congrArg some (decide_eq_true hb1))
       by_cases hb : (cs.length : Int) ≤ bn
       · by_cases hcd : 0 ≤ cd ∧ cd ≤ 3
         · have hcd1 := (Qbp cd 0 3).trans (congrArg some (decide_eq_true hcd))
           have hsaid := l11Said_tells m sd hml hsd
           cases hs : (sd.all fun v => Qb0 v m.length) with
           | false =>
             rw [hs] at hsaid
             exact ⟨false, Ev.bnd (hp ▸ hspec) (Ev.ifp rfl (Ev.bindc hn1 (Ev.ifp rfl (Ev.bindc hb2 (Ev.ifp rfl (Ev.ifn (by omega) (Ev.bindc hcd1 (Ev.ifp rfl (Ev.bnd hsaid (Ev.ifn (by simp) (no _ rfl))))))))))), ⟨fun h => (by cases h), fun h => (by have := h.told; rw [told0, hs] at this; simp at this)⟩⟩
           | true =>
             rw [hs] at hsaid
             have go : ∀ r, Ev (fun k => Qah.j0 k (cs.length : Int) ((cd == 1) != (decide (nw < 0))) m cs nw bn sd cd) r → Ev (fun k => Qah.f k m cs nw bn sd cd) r := fun r hr => by
              unfold Qah.f
              rw [hw]
              exact Ev.bnd (hp ▸ hspec) (Ev.ifp rfl (Ev.bindc hn1 (Ev.ifp rfl (Ev.bindc hb2 (Ev.ifp rfl (Ev.ifn (by omega) (Ev.bindc hcd1 (Ev.ifp rfl (Ev.bnd hsaid (Ev.ifp rfl hr))))))))))
             have hneg : decide (nw < 0) = (nw == -1) := by
              rw [Bool.eq_iff_iff]
              simp only [decide_eq_true_eq, beq_iff_eq]
              omega
             have htold : toldB m.length bn sd cd (nw == -1) = ((cd == 1) == (nw == -1)) := by rw [told0, hs, decide_eq_true hb1, decide_eq_true hcd]; simp
             have res : ∃ b : Bool, Ev (fun k => Qah.f k m cs nw bn sd cd) b ∧ (b = true ↔ HOk m cs nw bn sd cd) := by
              cases he : ((cd == 1) == (nw == -1)) with
              | false =>
                refine ⟨false, go _ (no _ ?_), ⟨fun h => (by cases h), fun h => (by have := h.told; rw [htold, he] at this; exact this)⟩⟩
                rw [hneg, bne, he]
                rfl
              | true =>
                have hx : ((cd == 1) != (decide (nw < 0))) = false := by rw [hneg, bne, he]; rfl
                obtain ⟨b, hb1', hb2'⟩ := QcS (σ := Int) (fun k i s => Qah.l0 k (cs.length : Int) s i m cs nw bn sd cd) cs.length
                 (fun i s => s = (live (cs.take i) : Int) ∧ ∀ (j : Nat) (hj : j < cs.length), j < i → formB m cs.length cs[j] = true) (fun b : Bool => b = true ↔ (∀ c, c ∈ cs → formB m cs.length c = true) ∧ ∃ L, Qcw cs nw L ∧ L.length = live cs ∧ Room cs nw L)
                 (fun i s hi ⟨hs, hI⟩ => by
                  have hci := hc.2 _ (List.getElem_mem hi)
                  have hform := l11Form_tells m cs.length cs[i] hml hl hci.1 hci.2
                  cases hfm : formB m cs.length cs[i] with
                  | false =>
                    rw [hfm] at hform
                    refine .inl ⟨false, ⟨fun h => (by cases h), fun h => (by have := h.1 _ (List.getElem_mem hi); rw [hfm] at this; exact this)⟩, ?_⟩
                    refine Ev.step (fun k => by rw [Qah.l0]) (Ev.ifp (by omega) (Ev.ifp (by omega) (Ev.ifp (by omega) ?_)))
                    rw [rdCall hi]
                    exact Ev.bnd hform (Ev.ifn (by simp) (Ev.now _))
                  | true =>
                    rw [hfm] at hform
                    have hlt := live_take hi
                    have hle : live (cs.take i) ≤ i := Nat.le_trans (live_le _) (by rw [List.length_take]; omega)
                    refine .inr ⟨(live (cs.take (i + 1)) : Int), ⟨rfl, fun j hj hji => ?_⟩, fun r hr => ?_⟩
                    · by_cases e : j = i
                      · subst e; exact hfm
                      · exact hI j hj (by omega)
                    · refine Ev.step (fun k => by rw [Qah.l0]) (Ev.ifp (by omega) (Ev.ifp (by omega) (Ev.ifp (by omega) ?_)))
                      rw [rdCall hi]
                      refine Ev.bnd hform (Ev.ifp rfl ?_)
                      rw [w64 (x := (i : Int) + 1) (by omega) (by omega)]
                      rw [hlt] at hr
                      by_cases hd : cs[i].f5 = true
                      · rw [if_pos hd] at hr
                        rw [hs]
                        exact Ev.ifp hd hr
                      · rw [if_neg hd] at hr
                        refine Ev.ifn hd ?_
                        rw [hs, w64 (by omega) (by omega)]
                        exact hr)
                 (fun s ⟨hs, hI⟩ => by
                  have hall : ∀ c, c ∈ cs → formB m cs.length c = true := fun c hc' => by
                   obtain ⟨j, hj, rfl⟩ := List.mem_iff_getElem.mp hc'
                   exact hI j hj hj
                  rw [List.take_length] at hs
                  have tail : ∃ b : Bool, Ev (fun k => (Qau.f k cs nw bn sd cd).bind fun t108 => (if (t108.length : Int) = s then ((QaF.f k cs nw bn sd cd).bind fun t111 => (some t111)) else (some false))) b ∧ ((¬ (0 ≤ nw ∧ (Qaa cs nw).f5 = true)) → (b = true ↔ ∃ L, Qcw cs nw L ∧ L.length = live cs ∧ Room cs nw L)) := by
                   rcases l11Chain_tells cs nw bn sd cd hl with ⟨L, c1, c2⟩ | ⟨c1, c2⟩
                   · by_cases hlen : L.length = live cs
                     · obtain ⟨b, g1, g2⟩ := wait_tells cs nw bn sd cd hl (fun c hc' => formB_six (hall c hc')) c1
                       refine ⟨b, Ev.bnd c2 (Ev.ifp (by omega) (Ev.bnd (Ev.bnd c2 g1) (Ev.now _))), fun _ => g2.trans ⟨fun h => ⟨L, c1, hlen, h⟩, fun ⟨M, d1, _, d3⟩ => by rw [c1.unique d1]; exact d3⟩⟩
                     · exact ⟨false, Ev.bnd c2 (Ev.ifn (by omega) (Ev.now _)), fun _ => ⟨fun h => (by cases h), fun ⟨M, d1, d2, _⟩ => absurd (c1.unique d1 ▸ d2) hlen⟩⟩
                   · by_cases h0 : live cs = 0
                     ·
                      refine ⟨true, Ev.bnd c2 (Ev.ifp (by simp; omega) (Ev.bnd (Ev.bnd c2 (Ev.step (fun k => by rw [QaF.l0]) (Ev.ifn (by simp) (Ev.now _)))) (Ev.now _))), fun hnd => ?_⟩
                      exfalso
                      by_cases hneg0 : nw < 0
                      · exact c1 ⟨[], .done hneg0⟩
                      · have hf : (Qaa cs nw).f5 = false := by
                         cases h : (Qaa cs nw).f5 with
                         | false => rfl
                         | true => exact absurd ⟨by omega, h⟩ hnd
                        obtain ⟨j, rfl⟩ := Int.eq_ofNat_of_zero_le (show 0 ≤ nw by omega)
                        have hj : j < cs.length := by omega
                        rw [rdCall hj] at hf
                        unfold live at h0
                        have := List.countP_eq_zero.1 h0 _ (List.getElem_mem hj)
                        rw [hf] at this
                        exact this rfl
                     · exact ⟨false, Ev.bnd c2 (Ev.ifn (by simp; omega) (Ev.now _)), fun _ => ⟨fun h => (by cases h), fun ⟨L, h, _⟩ => absurd ⟨L, h⟩ c1⟩⟩
                  obtain ⟨b, g1, g2⟩ := tail
                  by_cases hneg0 : nw < 0
                  · refine ⟨b, (g2 (fun h => by omega)).trans ⟨fun h => ⟨hall, h⟩, fun h => h.2⟩, Ev.step (fun k => by rw [Qah.l0]) (Ev.ifn (by omega) (Ev.ifp hneg0 g1))⟩
                  · cases hf : (Qaa cs nw).f5 with
                    | true =>
                      refine ⟨false, ⟨fun h => (by cases h), fun ⟨_, L, h, _⟩ => ?_⟩, Ev.step (fun k => by rw [Qah.l0]) (Ev.ifn (by omega) (Ev.ifn hneg0 (Ev.ifp (by omega) (Ev.ifp (by omega) (Ev.ifp hf (Ev.now _))))))⟩
                      cases h with
                      | done h0 => omega
                      | next _ _ h2 =>
                        rw [hf] at h2
                        cases h2
                    | false =>
                      refine ⟨b, (g2 (fun h => by rw [hf] at h; exact absurd h.2 (by simp))).trans ⟨fun h => ⟨hall, h⟩, fun h => h.2⟩, Ev.step (fun k => by rw [Qah.l0]) (Ev.ifn (by omega) (Ev.ifn hneg0 (Ev.ifp (by omega) (Ev.ifp (by omega) (Ev.ifn (by rw [hf]; simp) g1)))))⟩)
                 0 ⟨by simp [live], fun j hj h => absurd h (Nat.not_lt_zero _)⟩
                refine ⟨b, go _ (Ev.step (fun k => by rw [Qah.j0]) (Ev.ifn (by rw [hx]; simp) hb2')), hb1'.trans ⟨fun h => ⟨hp, hn, htold.trans he, hb, h.1, h.2⟩, fun h => ⟨h.form, h.chain⟩⟩⟩
             obtain ⟨b, r1, r2⟩ := res
             refine ⟨b, ?_, r2⟩
             unfold Qah.f at r1
             rw [hw] at r1
             exact r1
         · have hcd1 := (Qbp cd 0 3).trans (congrArg some (decide_eq_false hcd))
           exact ⟨false, Ev.bnd (hp ▸ hspec) (Ev.ifp rfl (Ev.bindc hn1 (Ev.ifp rfl (Ev.bindc hb2 (Ev.ifp rfl (Ev.ifn (by omega) (Ev.bindc hcd1 (Ev.ifn (by simp) (no _ rfl))))))))), ⟨fun h => (by cases h), fun h => (by have := h.told; rw [told0, decide_eq_false hcd] at this; simp at this)⟩⟩
       · exact ⟨false, Ev.bnd (hp ▸ hspec) (Ev.ifp rfl (Ev.bindc hn1 (Ev.ifp rfl (Ev.bindc hb2 (Ev.ifp rfl (Ev.ifp (by omega) (no _ rfl))))))), ⟨fun h => (by cases h), fun h => absurd h.born hb⟩⟩
     · have hb2 := (Qbp bn 1 30).trans (congrArg some (decide_eq_false hb1))
       exact ⟨false, Ev.bnd (hp ▸ hspec) (Ev.ifp rfl (Ev.bindc hn1 (Ev.ifp rfl (Ev.bindc hb2 (Ev.ifn (by simp) (no _ rfl)))))), ⟨fun h => (by cases h), fun h => (by have := h.told; rw [told0, decide_eq_false hb1] at this; simp at this)⟩⟩
   · have hn1 := (Qbp nw (-1) ((cs.length : Int) - 1)).trans (congrArg some (decide_eq_false hn))
     exact ⟨false, Ev.bnd (hp ▸ hspec) (Ev.ifp rfl (Ev.bindc hn1 (Ev.ifn (by simp) (no _ rfl)))), ⟨fun h => (by cases h), fun h => absurd h.now hn⟩⟩
theorem heapOk_same (m : List Qai) (cs : List Qas) (nw bn : Int) (sd : List Qao) (cd : Int) (hm : fewI m) (hc : SmallCs cs) (hsd : sd.length ≤ 1048576) :
 ∃ b : Bool, Ev (fun k => Qak.f k m cs nw bn sd cd) b ∧ Ev (fun k => Qah.f k m cs nw bn sd cd) b ∧ (b = true ↔ HOk m cs nw bn sd cd) := by
 obtain ⟨a, a1, a2⟩ := implHeapOk_tells m cs nw bn sd cd hm hc
 obtain ⟨b, b1, b2⟩ := specHeapOk_tells m cs nw bn sd cd hm hc hsd
 obtain rfl : a = b := Bool.eq_iff_iff.mpr (a2.trans b2.symm)
 exact ⟨a, a1, b1, a2⟩
end Go.Proofs.Ytabcijheemjplaa.G
namespace Go.Proofs.Ytabcijheemjplaa.G
open Go.RowKit Go.Proofs.YtabcijheemjplaaW.PrintWords Go.Proofs.YtabcijheemjplaaW.PrintLast
theorem FnExactHeapOk_pure : laws_FnExactHeapOk.Pure := by
 intro x0 x1 hw0 hw1
 refine Ev.rounds ?_
 show Ev (fun k => laws_FnExactHeapOk.f k x0.f0 x1.f0 x1.f1 x1.f2 x1.f3 x1.f4) true
 unfold laws_FnExactHeapOk.f
 obtain ⟨t, ⟨htl, hf⟩, ht⟩ := szProg_tells x0.f0 1048576 (by omega) (by omega) hw0
 refine Ev.bnd ht ?_
 by_cases hn : t < 0
 · exact Ev.ifp hn (Ev.now _)
 · refine Ev.ifn hn ?_
   obtain ⟨t2, ⟨-, hf2⟩, ht2⟩ := szHeap_tells x1 t (by omega) (by omega) hw1
   refine Ev.bnd ht2 ?_
   by_cases hn2 : t2 < 0
   · exact Ev.ifp hn2 (Ev.now _)
   · refine Ev.ifn hn2 ?_
     have hs := hf2 (by omega)
     have hs0 := hf (by omega)
     have hp := toProg_tells x0.f0 hs0
     have hh := toHeap_tells x1 hs
     have hsi := smallI_of_Heap hs
     obtain ⟨b, h1, h2, -⟩ := heapOk_same (x0.f0.map cMethod) (x1.f0.map cCall) x1.f1 x1.f2 (x1.f3.map cVal) x1.f4 (few_map hs0) hsi.1 hsi.2
     exact Ev.bnd hp (Ev.bnd hh (Ev.bnd h2 (Ev.bnd hp (Ev.bnd hh (Ev.bnd h1 (Ev.ifn (by simp) (Ev.bnd hp (Ev.bnd (eqProg_self _ (few_map hs0)) (Ev.ifp rfl (Ev.bnd hh (Ev.bnd (eqHeap_self (cHeap x1) hsi) (Ev.ifp rfl (Ev.now _)))))))))))))
end Go.Proofs.Ytabcijheemjplaa.G
