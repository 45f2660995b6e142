import Derived.Test.YtabcijheemjplaaKce8f5f6f
import Derived.Test.YtabcijheemjplaaK17151cc0
import Derived.Test.YtabcijheemjplaaK28ccba3b
import Derived.Test.YtabcijheemjplaaK92cd82ad
import Derived.Test.YtabcijheemjplaaK193084db
import Derived.Test.YtabcijheemjplaaK5baa9880
import Derived.Test.YtabcijheemjplaaK6ca9bb5a
import Derived.Test.YtabcijheemjplaaK0afb331e
import Derived.Shelf.Abstract
import Derived.Test.YtabcijheemjplaaK9f9fbdef
namespace Go.Proofs.Ytabcijheemjplaa.G
set_option linter.unusedSimpArgs false
open Go.RowKit Go.Proofs.YtabcijheemjplaaW.PrintWords Go.Proofs.YtabcijheemjplaaW.PrintLast
theorem Qbu (a b c : Int) : QaM.f a b c = some (decide (b ≤ a ∧ a ≤ c)) := by
 unfold QaM.f
 by_cases h : b ≤ a
 · rw [if_pos h]
   simp [h]
 · rw [if_neg h]
   simp [h]
theorem kinds18 {n : Nat} (h1 : 1 ≤ n) (h2 : n ≤ 18) : n = 1 ∨ n = 2 ∨ n = 3 ∨ n = 4 ∨ n = 5 ∨ n = 6 ∨ n = 7 ∨ n = 8 ∨ n = 9 ∨ n = 10 ∨ n = 11 ∨ n = 12 ∨ n = 13 ∨ n = 14 ∨ n = 15 ∨ n = 16 ∨ n = 17 ∨ n = 18 := by omega
theorem l1Op_tells (l : List Qae) (x y : Int) (ops : List Qac) (k a : Int) (hl : l.length ≤ 1048576) (ho : ops.length ≤ 1048576) (hy0 : 0 ≤ y) (hy1 : y ≤ 4) :
 Ev (fun n => QaG.f n l x y ops k a) (Qb8 l.length y ops.length k a) := by
 refine Ev.of (fun n => QaG.mono _ _ _ _ _ _ n) (k := 4) ?_
 have hw1 : wrap64 (y - 1) = y - 1 := w64 (by omega) (by omega)
 have hw2 : wrap64 ((ops.length : Int) - 1) = (ops.length : Int) - 1 := w64 (by omega) (by omega)
 have hw3 : wrap64 ((l.length : Int) - 1) = (l.length : Int) - 1 := w64 (by omega) (by omega)
 unfold Qb8
 by_cases hk : 1 ≤ k ∧ k ≤ 18
 · rw [if_pos hk]
   obtain ⟨n, rfl⟩ := Int.eq_ofNat_of_zero_le (show 0 ≤ k by omega)
   rcases kinds18 (n := n) (by omega) (by omega) with rfl | rfl | rfl | rfl | rfl | rfl | rfl | rfl | rfl | rfl | rfl | rfl | rfl | rfl | rfl | rfl | rfl | rfl <;>
    simp [QaG.f, QaG.j0, QaG.j1, QaG.j2, Qbu, hw1, hw2, hw3, mG, mMost] <;> rfl
 · rw [if_neg hk]
   have e1 : ¬ k = 1 := by omega
   have e2 : ¬ k = 2 := by omega
   have e3 : ¬ k = 3 := by omega
   have e7 : ¬ k = 7 := by omega
   have e8 : ¬ k = 8 := by omega
   have e9 : ¬ k = 9 := by omega
   have e13 : ¬ k = 13 := by omega
   have e14 : ¬ k = 14 := by omega
   simp [QaG.f, QaG.j0, QaG.j1, QaG.j2, Qbu, hw1, hw2, hw3, e1, e2, e3, e7, e8, e9, e13, e14, hk]
theorem l1Method_tells (l : List Qae) (m : Qae) (hl : l.length ≤ 1048576) (hm : m.f2.length ≤ 1048576) : Ev (fun n => Qas.f n l m.f0 m.f1 m.f2) (!QaZ l.length m) := by
 unfold Qas.f QaZ
 by_cases c1 : 0 ≤ m.f0 ∧ m.f0 ≤ 2
 · refine Ev.bindc (Qbu _ _ _) (Ev.ifp (decide_eq_true c1) ?_)
   by_cases c2 : m.f0 ≤ m.f1 ∧ m.f1 ≤ 4
   · refine Ev.bindc (Qbu _ _ _) (Ev.ifp (decide_eq_true c2) ?_)
     by_cases c3 : m.f2.length ≤ 14
     · rw [if_pos ⟨c1.1, c1.2, c2.1, c2.2, c3⟩]
       refine Ev.step (fun k => by rw [Qas.j0]) (Ev.ifn (by simp; omega) ?_)
       obtain ⟨r, hp, hr⟩ := ev_for0 (σ := Unit) (fun k i _ => Qas.l0 k i l m.f0 m.f1 m.f2) m.f2.length (fun i _ => ∀ (j : Nat) (hj : j < m.f2.length), j < i → Qb8 l.length m.f1 m.f2.length m.f2[j].f0 m.f2[j].f1 = true)
        (fun r => r = !(m.f2.any (fun op => !Qb8 l.length m.f1 m.f2.length op.f0 op.f1)))
        (fun i _ hi hs => by
         have hop := l1Op_tells l m.f0 m.f1 m.f2 m.f2[i].f0 m.f2[i].f1 hl hm (by omega) (by omega)
         cases ho : Qb8 l.length m.f1 m.f2.length m.f2[i].f0 m.f2[i].f1 with
         | false =>
           refine .inl ⟨false, ?_, ?_⟩
           · have : m.f2.any (fun op => !Qb8 l.length m.f1 m.f2.length op.f0 op.f1) = true := List.any_eq_true.mpr ⟨m.f2[i], List.getElem_mem hi, by rw [ho]; rfl⟩
             rw [this]
             rfl
           · refine Ev.step (fun k => by rw [Qas.l0]) (Ev.ifp (by omega) (Ev.ifp (by omega) ?_))
             rw [Qca hi]
             rw [ho] at hop
             exact Ev.bnd hop (Ev.ifn (by simp) (Ev.now _))
         | true =>
           refine .inr ⟨(), fun j hj hji => ?_, fun r hr => ?_⟩
           · by_cases e : j = i
             · subst e; exact ho
             · exact hs j hj (by omega)
           · refine Ev.step (fun k => by rw [Qas.l0]) (Ev.ifp (by omega) (Ev.ifp (by omega) ?_))
             rw [Qca hi]
             rw [ho] at hop
             refine Ev.bnd hop (Ev.ifp rfl ?_)
             rw [w64 (by omega) (by omega)]
             exact hr)
        (fun _ hs => ⟨true, by
         have : m.f2.any (fun op => !Qb8 l.length m.f1 m.f2.length op.f0 op.f1) = false := by
          rw [List.any_eq_false]
          intro op hop
          obtain ⟨j, hj, rfl⟩ := List.mem_iff_getElem.mp hop
          simp [hs j hj hj]
         rw [this]
         rfl, Ev.step (fun k => by rw [Qas.l0]) (Ev.ifn (by omega) (Ev.now _))⟩)
        () (fun j hj h => absurd h (Nat.not_lt_zero _))
       rw [← hp]
       exact hr
     · rw [if_neg (fun h => c3 h.2.2.2.2)]
       refine Ev.step (fun k => by rw [Qas.j0]) ?_
       exact Ev.ifp (by simp; omega) (Ev.now _)
   · rw [if_neg (fun h => c2 ⟨h.2.2.1, h.2.2.2.1⟩)]
     refine Ev.bindc (Qbu _ _ _) (Ev.ifn (by simp only [decide_eq_true_eq]; exact c2) ?_)
     refine Ev.step (fun k => by rw [Qas.j0]) ?_
     exact Ev.ifp rfl (Ev.now _)
 · rw [if_neg (fun h => c1 ⟨h.1, h.2.1⟩)]
   refine Ev.bindc (Qbu _ _ _) (Ev.ifn (by simp only [decide_eq_true_eq]; exact c1) ?_)
   refine Ev.step (fun k => by rw [Qas.j0]) ?_
   exact Ev.ifp rfl (Ev.now _)
theorem Qb9 (l : List Qae) (hl : fewI l) : Ev (fun n => Qaz.f n l) (QbB l) := by
 unfold Qaz.f QbB
 have hl1 := hl.1
 by_cases c1 : 1 ≤ l.length ∧ l.length ≤ 4
 · refine Ev.bindc (Qbu _ _ _) (Ev.ifp (decide_eq_true (by omega)) (Ev.ifp (by omega) ?_))
   by_cases c2 : (Qaa l 0).f0 = 0
   · rw [if_pos ⟨c1.1, c1.2, c2⟩]
     refine Ev.step (fun k => by rw [Qaz.j0]) (Ev.ifn (by simp [c2]) ?_)
     obtain ⟨r, hp, hr⟩ := ev_for0 (σ := Unit) (fun k i _ => Qaz.l0 k i l) l.length (fun i _ => ∀ (j : Nat) (hj : j < l.length), j < i → QaZ l.length l[j] = false)
      (fun r => r = !(l.any (QaZ l.length)))
      (fun i _ hi hs => by
       have hm := l1Method_tells l l[i] hl1 (hl.2 _ (List.getElem_mem hi))
       cases ho : QaZ l.length l[i] with
       | true =>
         refine .inl ⟨false, ?_, ?_⟩
         · have : l.any (QaZ l.length) = true := List.any_eq_true.mpr ⟨l[i], List.getElem_mem hi, ho⟩
           rw [this]
           rfl
         · refine Ev.step (fun k => by rw [Qaz.l0]) (Ev.ifp (by omega) (Ev.ifp (by omega) ?_))
           rw [Qbl hi]
           rw [ho] at hm
           exact Ev.bnd hm (Ev.ifn (by simp) (Ev.now _))
       | false =>
         refine .inr ⟨(), fun j hj hji => ?_, fun r hr => ?_⟩
         · by_cases e : j = i
           · subst e; exact ho
           · exact hs j hj (by omega)
         · refine Ev.step (fun k => by rw [Qaz.l0]) (Ev.ifp (by omega) (Ev.ifp (by omega) ?_))
           rw [Qbl hi]
           rw [ho] at hm
           refine Ev.bnd hm (Ev.ifp rfl ?_)
           rw [w64 (by omega) (by omega)]
           exact hr)
      (fun _ hs => ⟨true, by
       have : l.any (QaZ l.length) = false := by
        rw [List.any_eq_false]
        intro op hop
        obtain ⟨j, hj, rfl⟩ := List.mem_iff_getElem.mp hop
        simp [hs j hj hj]
       rw [this]
       rfl, Ev.step (fun k => by rw [Qaz.l0]) (Ev.ifn (by omega) (Ev.now _))⟩)
      () (fun j hj h => absurd h (Nat.not_lt_zero _))
     rw [← hp]
     exact hr
   · rw [if_neg (fun h => c2 h.2.2)]
     refine Ev.step (fun k => by rw [Qaz.j0]) ?_
     exact Ev.ifp (by simp [c2]) (Ev.now _)
 · rw [if_neg (fun h => c1 ⟨h.1, h.2.1⟩)]
   refine Ev.bindc (Qbu _ _ _) (Ev.ifn (by simp only [decide_eq_true_eq]; omega) ?_)
   refine Ev.step (fun k => by rw [Qaz.j0]) ?_
   exact Ev.ifp rfl (Ev.now _)
def QbA (l : List Qae) (k a : Int) : Int × Int :=
 if 1 ≤ k ∧ k ≤ 18 then (if k = 9 then (if 0 ≤ a ∧ a < (l.length : Int) then ((Qaa l a).f0, 1) else (0, 0)) else (mTakes k.toNat, mLeft k.toNat)) else (0, 0)
theorem Qb5 (l : List Qae) (k a : Int) : QbM.f l k a = some (QbA l k a) := by
 unfold QbM.f QbA
 split
 · split
   · split <;> rfl
   · rfl
 · rfl
theorem specOpTakes_tells (l : List Qae) (k a : Int) (hl : l.length ≤ 1048576) : Ev (fun n => Qaq.f n l k a) (QbA l k a) := by
 refine Ev.of (fun n => Qaq.mono _ _ _ n) (k := 5) ?_
 have hw3 : wrap64 ((l.length : Int) - 1) = (l.length : Int) - 1 := w64 (by omega) (by omega)
 unfold QbA
 by_cases hk : 1 ≤ k ∧ k ≤ 18
 · rw [if_pos hk]
   by_cases h9 : k = 9
   · subst h9
     rw [if_pos rfl]
     by_cases ha : 0 ≤ a ∧ a < (l.length : Int)
     · have ha' : 0 ≤ a ∧ a ≤ (l.length : Int) - 1 := by omega
       simp [Qaq.f, Qaq.j0, Qaq.j1, Qaq.j2, Qaq.j3, Qbu, hw3, ha, ha']
     · have ha' : ¬ (0 ≤ a ∧ a ≤ (l.length : Int) - 1) := by omega
       simp [Qaq.f, Qaq.j0, Qaq.j1, Qaq.j2, Qaq.j3, Qbu, hw3, ha, ha']
   · rw [if_neg h9]
     obtain ⟨n, rfl⟩ := Int.eq_ofNat_of_zero_le (show 0 ≤ k by omega)
     rcases kinds18 (n := n) (by omega) (by omega) with rfl | rfl | rfl | rfl | rfl | rfl | rfl | rfl | rfl | rfl | rfl | rfl | rfl | rfl | rfl | rfl | rfl | rfl <;>
      first | exact absurd rfl h9 | rfl
 · rw [if_neg hk]
   have e : ∀ z : Int, 1 ≤ z → z ≤ 18 → ¬ k = z := fun z h1 h2 h => hk (by omega)
   simp [Qaq.f, Qaq.j0, Qaq.j1, Qaq.j2, Qaq.j3, e]
end Go.Proofs.Ytabcijheemjplaa.G
namespace Go.Proofs.Ytabcijheemjplaa.G
open Go.RowKit Go.Proofs.YtabcijheemjplaaW.PrintWords Go.Proofs.YtabcijheemjplaaW.PrintLast
theorem Qbj {s : List Int} {p : Int} (hc : QbG s p) (hp : p ≤ 1000000000) (n : Int) : ∃ r, Ev (fun k => Qab.f k s p n) (r, p + 1) ∧ 0 ≤ r ∧ (1 ≤ n → r < n) := by
 obtain ⟨r, h1, h2, h3⟩ := pick_tells hc hp n
 exact ⟨r, ⟨1, fun k hk => by obtain ⟨m, rfl⟩ : ∃ m, k = m + 1 := ⟨k - 1, by omega⟩; exact h1 m⟩, h2, h3⟩
theorem QbG.to {s : List Int} {p q : Int} (h : QbG s p) (hq : p ≤ q) : QbG s q := ⟨h.1, h.2.1, by have := h.2.2; omega⟩
def QbQ (n : Nat) (temps : Int) (op : Qac) : Prop := ∀ no, Qb8 n temps no op.f0 op.f1 = true
theorem ops_go {L : List Int} {acc r : List Qac} {i : Nat} (h : i + 1 < L.length) (ha : acc.length ≤ 100) (hL : L.length ≤ 100) (k : Ev (fun k => Qam.l0 k L (acc ++ [⟨rd L i, rd L ((i : Int) + 1)⟩]) ((i + 2 : Nat) : Int)) r) : Ev (fun k => Qam.l0 k L acc (i : Int)) r := by
 refine Ev.step (fun k => by rw [Qam.l0]) ?_
 rw [w64 (x := (i : Int) + 1) (by omega) (by omega), w64 (x := (i : Int) + 2) (by omega) (by omega)]
 exact Ev.ifp (by omega) (Ev.ifp (by omega) (Ev.ifp (by omega) (Ev.ifp (by omega) (Ev.ifp (by omega) k))))
theorem ops_end {L : List Int} {acc : List Qac} {i : Nat} (h : L.length ≤ i + 1) (hL : i ≤ 100) : Ev (fun k => Qam.l0 k L acc (i : Int)) acc := by
 refine Ev.step (fun k => by rw [Qam.l0]) ?_
 rw [w64 (x := (i : Int) + 1) (by omega) (by omega)]
 exact Ev.ifn (by omega) (Ev.now _)
theorem ops2 (a b : Int) : Ev (fun k => Qam.f k [a, b]) [⟨a, b⟩] :=
 ops_go (i := 0) (acc := []) (by simp) (by simp) (by simp) (ops_end (by simp) (by simp))
theorem ops4 (a b c d : Int) : Ev (fun k => Qam.f k [a, b, c, d]) [⟨a, b⟩, ⟨c, d⟩] :=
 ops_go (i := 0) (acc := []) (by simp) (by simp) (by simp) (ops_go (i := 2) (by simp) (by simp) (by simp) (ops_end (by simp) (by simp)))
theorem ops6 (a b c d e f : Int) : Ev (fun k => Qam.f k [a, b, c, d, e, f]) [⟨a, b⟩, ⟨c, d⟩, ⟨e, f⟩] :=
 ops_go (i := 0) (acc := []) (by simp) (by simp) (by simp) (ops_go (i := 2) (by simp) (by simp) (by simp) (ops_go (i := 4) (by simp) (by simp) (by simp) (ops_end (by simp) (by simp))))
theorem ops8 (a b c d e f g h : Int) : Ev (fun k => Qam.f k [a, b, c, d, e, f, g, h]) [⟨a, b⟩, ⟨c, d⟩, ⟨e, f⟩, ⟨g, h⟩] :=
 ops_go (i := 0) (acc := []) (by simp) (by simp) (by simp) (ops_go (i := 2) (by simp) (by simp) (by simp) (ops_go (i := 4) (by simp) (by simp) (by simp) (ops_go (i := 6) (by simp) (by simp) (by simp) (ops_end (by simp) (by simp)))))
section
variable {n : Nat} {temps : Int}
theorem Qcm {k : Int} (h : k = 4 ∨ k = 5 ∨ k = 6 ∨ k = 10 ∨ k = 11 ∨ k = 12 ∨ k = 15 ∨ k = 16 ∨ k = 17 ∨ k = 18) : QbQ n temps ⟨k, 0⟩ := by
 intro no
 rcases h with rfl | rfl | rfl | rfl | rfl | rfl | rfl | rfl | rfl | rfl <;> rfl
theorem fine_num {a : Int} (h0 : 0 ≤ a) (h1 : a < 50) : QbQ n temps ⟨1, a⟩ := by
 intro no
 show decide (0 ≤ a ∧ a ≤ 100 - 1) = true
 exact decide_eq_true ⟨h0, by omega⟩
theorem Qcf {a : Int} (h0 : 0 ≤ a) (h1 : a < temps) : QbQ n temps ⟨2, a⟩ := by
 intro no
 show decide (0 ≤ a ∧ a ≤ temps - 1) = true
 exact decide_eq_true ⟨h0, by omega⟩
theorem fine_set {a : Int} (h0 : 0 ≤ a) (h1 : a < temps) : QbQ n temps ⟨3, a⟩ := by
 intro no
 show decide (0 ≤ a ∧ a ≤ temps - 1) = true
 exact decide_eq_true ⟨h0, by omega⟩
theorem fine_call {a : Int} (h0 : 0 ≤ a) (h1 : a < n) : QbQ n temps ⟨9, a⟩ := by
 intro no
 show decide (0 ≤ a ∧ a ≤ (n : Int) - 1) = true
 exact decide_eq_true ⟨h0, by omega⟩
theorem fine_peek {a : Int} (h0 : 0 ≤ a) (h1 : a < 4) : QbQ n temps ⟨13, a⟩ := by
 intro no
 show decide (0 ≤ a ∧ a ≤ 4 - 1) = true
 exact decide_eq_true ⟨h0, by omega⟩
theorem fine_poke {a : Int} (h0 : 0 ≤ a) (h1 : a < 4) : QbQ n temps ⟨14, a⟩ := by
 intro no
 show decide (0 ≤ a ∧ a ≤ 4 - 1) = true
 exact decide_eq_true ⟨h0, by omega⟩
end
theorem all1 {α : Type} {P : α → Prop} {a : α} (ha : P a) : ∀ x, x ∈ [a] → P x := fun x hx => by rw [List.mem_singleton.1 hx]; exact ha
theorem all_cons {α : Type} {P : α → Prop} {a : α} {l : List α} (ha : P a) (hl : ∀ x, x ∈ l → P x) : ∀ x, x ∈ a :: l → P x := fun x hx => by
 rcases List.mem_cons.1 hx with rfl | hx
 · exact ha
 · exact hl x hx
theorem QbP {α : Type} {P : α → Prop} {a l : List α} (ha : ∀ x, x ∈ a → P x) (hl : ∀ x, x ∈ l → P x) : ∀ x, x ∈ a ++ l → P x := fun x hx => by
 rcases List.mem_append.1 hx with hx | hx
 · exact ha x hx
 · exact hl x hx
theorem end_tells (n : Nat) {temps : Int} (ht : 1 ≤ temps) {s : List Int} {p : Int} (hc : QbG s p) (hp : p ≤ 999999000) : ∃ a b p', Ev (fun k => QaV.f k s p temps) (a, b, p') ∧ QbQ n temps ⟨a, b⟩ ∧ p ≤ p' ∧ p' ≤ p + 2 := by
 obtain ⟨r, h1, h2, h3⟩ := Qbj hc (by omega) 4
 unfold QaV.f
 by_cases r0 : r = 0
 · exact ⟨4, 0, p + 1, Ev.bnd h1 (Ev.ifp r0 (Ev.now _)), Qcm (by omega), by omega, by omega⟩
 · by_cases r1 : r = 1
   · exact ⟨16, 0, p + 1, Ev.bnd h1 (Ev.ifn r0 (Ev.ifp r1 (Ev.now _))), Qcm (by omega), by omega, by omega⟩
   · by_cases r2 : r = 2
     · exact ⟨16, 0, p + 1, Ev.bnd h1 (Ev.ifn r0 (Ev.ifn r1 (Ev.ifp r2 (Ev.now _)))), Qcm (by omega), by omega, by omega⟩
     · obtain ⟨q, k1, k2, k3⟩ := Qbj (hc.to (q := p + 1) (by omega)) (by omega) temps
       exact ⟨3, q, p + 1 + 1, Ev.bnd h1 (Ev.ifn r0 (Ev.ifn r1 (Ev.ifn r2 (Ev.bnd k1 (Ev.now _))))), fine_set k2 (k3 ht), by omega, by omega⟩
theorem args_tells (n : Nat) {temps : Int} (ht : 1 ≤ temps) (N : Int) (hN : N ≤ 2) {s : List Int} : ∀ (d : Nat) (i : Int) (acc : List Qac) (p : Int), 0 ≤ i → N - i ≤ d → acc.length + d ≤ 100 → QbG s p → p + 2 * (d : Int) ≤ 999999900 → (∀ x, x ∈ acc → QbQ n temps x) →
 ∃ l p', Ev (fun k => QaE.l0 k N temps acc i s p) (l, p') ∧ (∀ x, x ∈ l → QbQ n temps x) ∧ l.length ≤ acc.length + d ∧ p ≤ p' ∧ p' ≤ p + 2 * d := by
 intro d
 induction d with
 | zero =>
   intro i acc p hi hd hl hc hp ha
   exact ⟨acc, p, Ev.step (fun k => by rw [QaE.l0]) (Ev.ifn (by omega) (Ev.now _)), ha, by omega, by omega, by omega⟩
 | succ d ih =>
   intro i acc p hi hd hl hc hp ha
   by_cases hlt : i < N
   · obtain ⟨r, h1, h2, h3⟩ := Qbj hc (by omega) 4
     have hal : acc.length < 8796093022208 := by omega
     by_cases r0 : r = 0
     · obtain ⟨l, p', e1, e2, e3, e4, e5⟩ := ih (i + 1) (acc ++ [⟨11, 0⟩]) (p + 1) (by omega) (by omega) (by rw [List.length_append, List.length_singleton]; omega) (hc.to (by omega)) (by omega) (QbP ha (all1 (Qcm (by omega))))
       rw [← w64 (x := i + 1) (by omega) (by omega)] at e1
       simp only [List.length_append, List.length_singleton] at e3
       exact ⟨l, p', Ev.step (fun k => by rw [QaE.l0]) (Ev.ifp hlt (Ev.bnd h1 (Ev.ifp r0 (Ev.ifp hal e1)))), e2, by omega, by omega, by omega⟩
     · by_cases r1 : r = 1
       · obtain ⟨q, k1, k2, k3⟩ := Qbj (hc.to (q := p + 1) (by omega)) (by omega) 10
         obtain ⟨l, p', e1, e2, e3, e4, e5⟩ := ih (i + 1) (acc ++ [⟨1, q⟩]) (p + 1 + 1) (by omega) (by omega) (by rw [List.length_append, List.length_singleton]; omega) (hc.to (by omega)) (by omega) (QbP ha (all1 (fine_num k2 (by have := k3 (by omega); omega))))
         rw [← w64 (x := i + 1) (by omega) (by omega)] at e1
         simp only [List.length_append, List.length_singleton] at e3
         exact ⟨l, p', Ev.step (fun k => by rw [QaE.l0]) (Ev.ifp hlt (Ev.bnd h1 (Ev.ifn r0 (Ev.ifp r1 (Ev.bnd k1 (Ev.ifp hal e1)))))), e2, by omega, by omega, by omega⟩
       · obtain ⟨q, k1, k2, k3⟩ := Qbj (hc.to (q := p + 1) (by omega)) (by omega) temps
         obtain ⟨l, p', e1, e2, e3, e4, e5⟩ := ih (i + 1) (acc ++ [⟨2, q⟩]) (p + 1 + 1) (by omega) (by omega) (by rw [List.length_append, List.length_singleton]; omega) (hc.to (by omega)) (by omega) (QbP ha (all1 (Qcf k2 (k3 ht))))
         rw [← w64 (x := i + 1) (by omega) (by omega)] at e1
         simp only [List.length_append, List.length_singleton] at e3
         exact ⟨l, p', Ev.step (fun k => by rw [QaE.l0]) (Ev.ifp hlt (Ev.bnd h1 (Ev.ifn r0 (Ev.ifn r1 (Ev.bnd k1 (Ev.ifp hal e1)))))), e2, by omega, by omega, by omega⟩
   · exact ⟨acc, p, Ev.step (fun k => by rw [QaE.l0]) (Ev.ifn hlt (Ev.now _)), ha, by omega, by omega, by omega⟩
theorem look0_tells (n : Nat) {temps : Int} {s : List Int} {p : Int} (hc : QbG s p) (hp : p ≤ 999999000) (l : List Qac) (hl : l.length ≤ 10) (ha : ∀ x, x ∈ l → QbQ n temps x) :
 ∃ l' p', Ev (fun k => Qau.j0 k l s p) (l', p') ∧ (∀ x, x ∈ l' → QbQ n temps x) ∧ l'.length ≤ 11 ∧ p ≤ p' ∧ p' ≤ p + 2 := by
 obtain ⟨r, h1, h2, h3⟩ := Qbj hc (by omega) 6
 have hal : l.length < 8796093022208 := by omega
 have len : ∀ x : Qac, (l ++ [x]).length ≤ 11 := fun x => by simp; omega
 by_cases r0 : r = 0
 · exact ⟨_, p + 1, Ev.step (fun k => by rw [Qau.j0]) (Ev.bnd h1 (Ev.ifp r0 (Ev.ifp hal (Ev.now _)))), QbP ha (all1 (Qcm (by omega))), len _, by omega, by omega⟩
 · have j1 : ∀ b : Bool, (b = true → r = 1 ∨ r = 2) → ∃ l' p', Ev (fun k => Qau.j1 k l r b s (p + 1)) (l', p') ∧ (∀ x, x ∈ l' → QbQ n temps x) ∧ l'.length ≤ 11 ∧ p ≤ p' ∧ p' ≤ p + 2 := by
    intro b _
    cases b with
    | true =>
      obtain ⟨q, k1, k2, k3⟩ := Qbj (hc.to (q := p + 1) (by omega)) (by omega) 4
      exact ⟨_, p + 1 + 1, Ev.step (fun k => by rw [Qau.j1]) (Ev.ifp rfl (Ev.bnd k1 (Ev.ifp hal (Ev.now _)))), QbP ha (all1 (fine_peek k2 (k3 (by omega)))), len _, by omega, by omega⟩
    | false =>
      by_cases r3 : r = 3
      · exact ⟨_, p + 1, Ev.step (fun k => by rw [Qau.j1]) (Ev.ifn (by simp) (Ev.ifp r3 (Ev.ifp hal (Ev.now _)))), QbP ha (all1 (Qcm (by omega))), len _, by omega, by omega⟩
      · by_cases r4 : r = 4
        · exact ⟨_, p + 1, Ev.step (fun k => by rw [Qau.j1]) (Ev.ifn (by simp) (Ev.ifn r3 (Ev.ifp r4 (Ev.ifp hal (Ev.now _))))), QbP ha (all1 (Qcm (by omega))), len _, by omega, by omega⟩
        · exact ⟨_, p + 1, Ev.step (fun k => by rw [Qau.j1]) (Ev.ifn (by simp) (Ev.ifn r3 (Ev.ifn r4 (Ev.now _)))), ha, by omega, by omega, by omega⟩
   by_cases r1 : r = 1
   · obtain ⟨l', p', e1, e⟩ := j1 (r == 1) (by simp; omega)
     exact ⟨l', p', Ev.step (fun k => by rw [Qau.j0]) (Ev.bnd h1 (Ev.ifn r0 (Ev.ifp r1 e1))), e⟩
   · obtain ⟨l', p', e1, e⟩ := j1 (r == 2) (by simp; omega)
     exact ⟨l', p', Ev.step (fun k => by rw [Qau.j0]) (Ev.bnd h1 (Ev.ifn r0 (Ev.ifn r1 e1))), e⟩
theorem look_tells (n : Nat) {temps : Int} (ht : 1 ≤ temps) {s : List Int} {p : Int} (hc : QbG s p) (hp : p ≤ 999998000) :
 ∃ l' p', Ev (fun k => Qau.f k s p temps) (l', p') ∧ (∀ x, x ∈ l' → QbQ n temps x) ∧ l'.length ≤ 11 ∧ p ≤ p' ∧ p' ≤ p + 4 := by
 obtain ⟨r, h1, h2, h3⟩ := Qbj hc (by omega) 5
 unfold Qau.f
 by_cases r0 : r = 0
 · obtain ⟨q, k1, k2, k3⟩ := Qbj (hc.to (q := p + 1) (by omega)) (by omega) temps
   obtain ⟨l', p', e1, e2, e3, e4, e5⟩ := look0_tells n (temps := temps) (hc.to (q := p + 1 + 1) (by omega)) (by omega) [⟨2, q⟩] (by simp) (all1 (Qcf k2 (k3 ht)))
   exact ⟨l', p', Ev.bnd (ops2 11 0) (Ev.bnd h1 (Ev.ifp r0 (Ev.bnd k1 (Ev.bnd (ops2 2 q) e1)))), e2, e3, by omega, by omega⟩
 · have two : ∀ x : Qac, x ∈ [(⟨11, 0⟩ : Qac), ⟨12, 0⟩] → QbQ n temps x := all_cons (Qcm (by omega)) (all1 (Qcm (by omega)))
   obtain ⟨l', p', e1, e2, e3, e4, e5⟩ := look0_tells n (temps := temps) (hc.to (q := p + 1) (by omega)) (by omega) [⟨11, 0⟩, ⟨12, 0⟩] (by simp) two
   by_cases r1 : r = 1
   · exact ⟨l', p', Ev.bnd (ops2 11 0) (Ev.bnd h1 (Ev.ifn r0 (Ev.ifp r1 (Ev.bnd (ops4 11 0 12 0) e1)))), e2, e3, by omega, by omega⟩
   · by_cases r2 : r = 2
     · exact ⟨l', p', Ev.bnd (ops2 11 0) (Ev.bnd h1 (Ev.ifn r0 (Ev.ifn r1 (Ev.ifp r2 (Ev.bnd (ops4 11 0 12 0) e1))))), e2, e3, by omega, by omega⟩
     · obtain ⟨l', p', e1, e2, e3, e4, e5⟩ := look0_tells n (temps := temps) (hc.to (q := p + 1) (by omega)) (by omega) [⟨11, 0⟩] (by simp) (all1 (Qcm (by omega)))
       exact ⟨l', p', Ev.bnd (ops2 11 0) (Ev.bnd h1 (Ev.ifn r0 (Ev.ifn r1 (Ev.ifn r2 e1)))), e2, e3, by omega, by omega⟩
theorem part_tells {L : List Int} (hL : ∀ x, x ∈ L → 0 ≤ x ∧ x ≤ 2) (hn0 : 1 ≤ L.length) (hn : L.length ≤ 100) {temps : Int} (ht : 1 ≤ temps) {s : List Int} {p : Int} (hc : QbG s p) (hp : p ≤ 999990000) :
 ∃ l p', Ev (fun k => Qay.f k s p L temps) (l, p') ∧ (∀ x, x ∈ l → QbQ L.length temps x) ∧ l.length ≤ 30 ∧ p ≤ p' ∧ p' ≤ p + 30 := by
 obtain ⟨r, h1, h2, h3⟩ := Qbj hc (by omega) 10
 have h3' := h3 (by omega)
 clear h3
 have c1 : QbG s (p + 1) := hc.to (by omega)
 have c2 : QbG s (p + 1 + 1) := hc.to (by omega)
 have c3 : QbG s (p + 1 + 1 + 1) := hc.to (by omega)
 have j1 : ∀ b : Bool, b = (r == 4) ∨ b = (r == 5) → ¬ r = 0 → ¬ r = 1 → ¬ r = 2 → ¬ r = 3 → ∃ l p', Ev (fun k => Qay.j1 k temps r b s (p + 1)) (l, p') ∧ (∀ x, x ∈ l → QbQ L.length temps x) ∧ l.length ≤ 30 ∧ p ≤ p' ∧ p' ≤ p + 30 := by
  intro b _ _ _ _ _
  cases b with
  | true =>
    obtain ⟨l, q, e1, e2, e3, e4, e5⟩ := look_tells L.length ht c1 (by omega)
    obtain ⟨a, b, q', f1, f2, f3, f4⟩ := end_tells L.length ht (hc.to (q := q) (by omega)) (by omega)
    have hal : l.length < 8796093022208 := by omega
    exact ⟨_, q', Ev.step (fun k => by rw [Qay.j1]) (Ev.ifp rfl (Ev.bnd e1 (Ev.bnd f1 (Ev.ifp hal (Ev.now _))))), QbP e2 (all1 f2), by simp; omega, by omega, by omega⟩
  | false =>
    by_cases r6 : r = 6
    · obtain ⟨q, k1, k2, k3⟩ := Qbj c1 (by omega) temps
      refine ⟨[⟨11, 0⟩, ⟨3, q⟩], p + 1 + 1, ?_, all_cons (Qcm (by omega)) (all1 (fine_set k2 (k3 ht))), by simp, by omega, by omega⟩
      refine Ev.step (fun k => by rw [Qay.j1]) ?_
      refine Ev.ifn (by simp) ?_
      refine Ev.ifp r6 ?_
      refine Ev.bnd k1 ?_
      refine Ev.bnd (ops4 11 0 3 q) ?_
      exact Ev.now _
    · by_cases r7 : r = 7
      · obtain ⟨t, k1, k2, k3⟩ := Qbj c1 (by omega) 2
        by_cases t0 : t = 0
        · obtain ⟨u, l1, l2, l3⟩ := Qbj c2 (by omega) 9
          obtain ⟨v, m1, m2, m3⟩ := Qbj c3 (by omega) 4
          refine ⟨[⟨11, 0⟩, ⟨12, 0⟩, ⟨1, u⟩, ⟨14, v⟩], p + 1 + 1 + 1 + 1, ?_, all_cons (Qcm (by omega)) (all_cons (Qcm (by omega)) (all_cons (fine_num l2 (by have := l3 (by omega); omega)) (all1 (fine_poke m2 (m3 (by omega)))))), by simp, by omega, by omega⟩
          refine Ev.step (fun k => by rw [Qay.j1]) ?_
          refine Ev.ifn (by simp) ?_
          refine Ev.ifn r6 ?_
          refine Ev.ifp r7 ?_
          refine Ev.bnd k1 ?_
          refine Ev.ifp t0 ?_
          refine Ev.bnd l1 ?_
          refine Ev.bnd m1 ?_
          refine Ev.bnd (ops8 11 0 12 0 1 u 14 v) ?_
          exact Ev.now _
        · obtain ⟨u, l1, l2, l3⟩ := Qbj c2 (by omega) temps
          obtain ⟨v, m1, m2, m3⟩ := Qbj c3 (by omega) temps
          refine ⟨[⟨2, u⟩, ⟨2, v⟩, ⟨6, 0⟩, ⟨16, 0⟩], p + 1 + 1 + 1 + 1, ?_, all_cons (Qcf l2 (l3 ht)) (all_cons (Qcf m2 (m3 ht)) (all_cons (Qcm (by omega)) (all1 (Qcm (by omega))))), by simp, by omega, by omega⟩
          refine Ev.step (fun k => by rw [Qay.j1]) ?_
          refine Ev.ifn (by simp) ?_
          refine Ev.ifn r6 ?_
          refine Ev.ifp r7 ?_
          refine Ev.bnd k1 ?_
          refine Ev.ifn t0 ?_
          refine Ev.bnd l1 ?_
          refine Ev.bnd m1 ?_
          refine Ev.bnd (ops8 2 u 2 v 6 0 16 0) ?_
          exact Ev.now _
      · by_cases r8 : r = 8
        · obtain ⟨u, l1, l2, l3⟩ := Qbj c1 (by omega) temps
          obtain ⟨v, m1, m2, m3⟩ := Qbj c2 (by omega) 9
          refine ⟨[⟨2, u⟩, ⟨1, v⟩, ⟨15, 0⟩] ++ [⟨4, 0⟩], p + 1 + 1 + 1, ?_, QbP (all_cons (Qcf l2 (l3 ht)) (all_cons (fine_num m2 (by have := m3 (by omega); omega)) (all1 (Qcm (by omega))))) (all1 (Qcm (by omega))), by simp, by omega, by omega⟩
          refine Ev.step (fun k => by rw [Qay.j1]) ?_
          refine Ev.ifn (by simp) ?_
          refine Ev.ifn r6 ?_
          refine Ev.ifn r7 ?_
          refine Ev.ifp r8 ?_
          refine Ev.bnd l1 ?_
          refine Ev.bnd m1 ?_
          refine Ev.bnd (ops6 2 u 1 v 15 0) ?_
          refine Ev.ifp (by simp only [List.length_cons, List.length_nil]; decide) ?_
          exact Ev.now _
        · obtain ⟨u, l1, l2, l3⟩ := Qbj c1 (by omega) 50
          obtain ⟨v, m1, m2, m3⟩ := Qbj c2 (by omega) 50
          refine ⟨[⟨1, u⟩, ⟨1, v⟩, ⟨5, 0⟩, ⟨16, 0⟩], p + 1 + 1 + 1, ?_, all_cons (fine_num l2 (l3 (by omega))) (all_cons (fine_num m2 (m3 (by omega))) (all_cons (Qcm (by omega)) (all1 (Qcm (by omega))))), by simp, by omega, by omega⟩
          refine Ev.step (fun k => by rw [Qay.j1]) ?_
          refine Ev.ifn (by simp) ?_
          refine Ev.ifn r6 ?_
          refine Ev.ifn r7 ?_
          refine Ev.ifn r8 ?_
          refine Ev.bnd l1 ?_
          refine Ev.bnd m1 ?_
          refine Ev.bnd (ops8 1 u 1 v 5 0 16 0) ?_
          exact Ev.now _
 have j0 : ∀ b : Bool, (b = true ∨ (¬ r = 0 ∧ ¬ r = 1 ∧ ¬ r = 2 ∧ ¬ r = 3)) → ∃ l p', Ev (fun k => Qay.j0 k L temps r b s (p + 1)) (l, p') ∧ (∀ x, x ∈ l → QbQ L.length temps x) ∧ l.length ≤ 30 ∧ p ≤ p' ∧ p' ≤ p + 30 := by
  intro b hb
  cases b with
  | true =>
    obtain ⟨q, k1, k2, k3⟩ := Qbj c1 (by omega) (L.length : Int)
    have k4 := k3 (by omega)
    have hq : 0 ≤ rd L q ∧ rd L q ≤ 2 := by
     unfold rd
     rw [List.getD_eq_getElem?_getD, List.getElem?_eq_getElem (by omega : q.toNat < L.length)]
     exact hL _ (List.getElem_mem _)
    obtain ⟨l, q1, e1, e2, e3, e4, e5⟩ := args_tells L.length ht (rd L q) hq.2 2 0 [] (p + 1 + 1) (by omega) (by omega) (by simp) c2 (by omega) (fun x hx => by simp at hx)
    obtain ⟨a, b, q', f1, f2, f3, f4⟩ := end_tells L.length ht (hc.to (q := q1) (by omega)) (by omega)
    simp only [List.length_nil] at e3
    have hal : l.length < 8796093022208 := by omega
    have hal2 : (l ++ [(⟨9, q⟩ : Qac)]).length < 8796093022208 := by rw [List.length_append, List.length_singleton]; omega
    exact ⟨_, q', Ev.step (fun k => by rw [Qay.j0]) (Ev.ifp rfl (Ev.bnd k1 (Ev.ifp k2 (Ev.ifp k4 (Ev.bnd e1 (Ev.ifp hal (Ev.bindc rfl (Ev.bnd f1 (Ev.ifp hal2 (Ev.now _)))))))))), QbP (QbP e2 (all1 (fine_call k2 k4))) (all1 f2), by simp; omega, by omega, by omega⟩
  | false =>
    obtain ⟨r0, r1, r2, r3⟩ := hb.resolve_left (by simp)
    by_cases r4 : r = 4
    · obtain ⟨l, p', e⟩ := j1 (r == 4) (.inl rfl) r0 r1 r2 r3
      exact ⟨l, p', Ev.step (fun k => by rw [Qay.j0]) (Ev.ifn (by simp) (Ev.ifp r4 e.1)), e.2⟩
    · obtain ⟨l, p', e⟩ := j1 (r == 5) (.inr rfl) r0 r1 r2 r3
      exact ⟨l, p', Ev.step (fun k => by rw [Qay.j0]) (Ev.ifn (by simp) (Ev.ifn r4 e.1)), e.2⟩
 unfold Qay.f
 by_cases r0 : r = 0
 · obtain ⟨q, k1, k2, k3⟩ := Qbj c1 (by omega) 20
   obtain ⟨a, b, q', f1, f2, f3, f4⟩ := end_tells L.length ht c2 (by omega)
   have hal : ([(⟨1, q⟩ : Qac)]).length < 8796093022208 := by rw [List.length_singleton]; decide
   exact ⟨_, q', Ev.bnd h1 (Ev.ifp r0 (Ev.bnd k1 (Ev.bnd (ops2 1 q) (Ev.bnd f1 (Ev.ifp hal (Ev.now _)))))), QbP (all1 (fine_num k2 (by have := k3 (by omega); omega))) (all1 f2), by simp, by omega, by omega⟩
 · by_cases r1 : r = 1
   · obtain ⟨l, p', e⟩ := j0 (r == 1) (.inl (by simp [r1]))
     exact ⟨l, p', Ev.bnd h1 (Ev.ifn r0 (Ev.ifp r1 e.1)), e.2⟩
   · by_cases r2 : r = 2
     · obtain ⟨l, p', e⟩ := j0 (r == 2) (.inl (by simp [r2]))
       exact ⟨l, p', Ev.bnd h1 (Ev.ifn r0 (Ev.ifn r1 (Ev.ifp r2 e.1))), e.2⟩
     · obtain ⟨l, p', e⟩ := j0 (r == 3) (by
        by_cases r3 : r = 3
        · exact .inl (by simp [r3])
        · exact .inr ⟨r0, r1, r2, r3⟩)
       exact ⟨l, p', Ev.bnd h1 (Ev.ifn r0 (Ev.ifn r1 (Ev.ifn r2 e.1))), e.2⟩
def OpLate (n : Nat) (temps : Int) (op : Qac) : Prop := ∀ no, 1 ≤ no → Qb8 n temps no op.f0 op.f1 = true
theorem QbQ.late {n : Nat} {temps : Int} {op : Qac} (h : QbQ n temps op) : OpLate n temps op := fun no _ => h no
theorem late_zero (n : Nat) (temps : Int) : OpLate n temps ⟨8, 0⟩ := fun no h => by
 show decide (0 ≤ 0 ∧ 0 ≤ (no : Int) - 1) = true
 exact decide_eq_true ⟨by omega, by omega⟩
theorem fin_tells (n : Nat) {args temps : Int} (ha : 0 ≤ args ∧ args ≤ 2 ∧ args ≤ temps) (ht : 1 ≤ temps ∧ temps ≤ 4) {s : List Int} {p : Int} (hc : QbG s p) (hp : p ≤ 999999000) (l : List Qac) (hl : l.length ≤ 12)
 (hop : ∀ x, x ∈ l → Qb8 n temps (l.length + 2) x.f0 x.f1 = true) :
 ∃ m p', Ev (fun k => Qag.j2 k s p args temps l) (m.f0, m.f1, m.f2, p') ∧ QaZ n m = false ∧ m.f0 = args ∧ 1 ≤ m.f2.length ∧ p ≤ p' ∧ p' ≤ p + 2 := by
 obtain ⟨r, h1, h2, h3⟩ := Qbj hc (by omega) 3
 have hal : l.length < 8796093022208 := by omega
 have good : ∀ x : Qac, QbQ n temps x → QaZ n ⟨args, temps, (l ++ [x]) ++ [⟨10, 0⟩]⟩ = false := by
  intro x hx
  unfold QaZ
  have hlen : ((l ++ [x]) ++ [(⟨10, 0⟩ : Qac)]).length = l.length + 2 := by simp
  rw [if_pos ⟨ha.1, ha.2.1, ha.2.2, ht.2, by rw [hlen]; omega⟩, List.any_eq_false]
  intro y hy
  show ¬ (!Qb8 n temps ((l ++ [x]) ++ [(⟨10, 0⟩ : Qac)]).length y.f0 y.f1) = true
  rw [hlen]
  rcases List.mem_append.1 hy with hy | hy
  · rcases List.mem_append.1 hy with hy | hy
    · rw [hop y hy]; simp
    · rw [List.mem_singleton.1 hy, hx (l.length + 2)]; simp
  · rw [List.mem_singleton.1 hy, (Qcm (n := n) (temps := temps) (k := 10) (by omega)) (l.length + 2)]; simp
 by_cases r0 : r = 0
 · refine ⟨⟨args, temps, (l ++ [⟨11, 0⟩]) ++ [⟨10, 0⟩]⟩, p + 1, ?_, good _ (Qcm (by omega)), rfl, by simp, by omega, by omega⟩
   refine Ev.step (fun k => by rw [Qag.j2]) ?_
   refine Ev.bnd h1 ?_
   refine Ev.ifp r0 ?_
   refine Ev.ifp hal ?_
   refine Ev.bindc rfl ?_
   refine Ev.ifp (by rw [List.length_append, List.length_singleton]; omega) ?_
   exact Ev.now _
 · obtain ⟨q, k1, k2, k3⟩ := Qbj (hc.to (q := p + 1) (by omega)) (by omega) temps
   refine ⟨⟨args, temps, (l ++ [⟨2, q⟩]) ++ [⟨10, 0⟩]⟩, p + 1 + 1, ?_, good _ (Qcf k2 (k3 ht.1)), rfl, by simp, by omega, by omega⟩
   refine Ev.step (fun k => by rw [Qag.j2]) ?_
   refine Ev.bnd h1 ?_
   refine Ev.ifn r0 ?_
   refine Ev.bnd k1 ?_
   refine Ev.ifp hal ?_
   refine Ev.bindc rfl ?_
   refine Ev.ifp (by rw [List.length_append, List.length_singleton]; omega) ?_
   exact Ev.now _
theorem rd_Op_app {l l' : List Qac} {i : Int} (h : i.toNat < l.length) : Qah (l ++ l') i = Qah l i := by
 unfold Qah
 rw [List.getD_eq_getElem?_getD, List.getD_eq_getElem?_getD, List.getElem?_append_left h]
def Skip (l : List Qac) (k : Int) : Prop := k = -1 ∨ (0 ≤ k ∧ k < (l.length : Int) ∧ Qah l k = ⟨8, 0⟩)
theorem Skip.app {l : List Qac} {k : Int} (h : Skip l k) (l' : List Qac) : Skip (l ++ l') k := by
 rcases h with h | ⟨h0, h1, h2⟩
 · exact .inl h
 · exact .inr ⟨h0, by rw [List.length_append]; omega, by rw [rd_Op_app (by omega)]; exact h2⟩
set_option maxHeartbeats 1000000 in
theorem methodLoop_tells {L : List Int} (hL : ∀ x, x ∈ L → 0 ≤ x ∧ x ≤ 2) (hn0 : 1 ≤ L.length) (hn : L.length ≤ 100) {args temps : Int} (ha : 0 ≤ args ∧ args ≤ 2 ∧ args ≤ temps) (ht : 1 ≤ temps ∧ temps ≤ 4) {s : List Int} :
 ∀ (d : Nat) (i k : Int) (l : List Qac) (p : Int), 0 ≤ i → i + d = 4 → QbG s p → p + 40 * (d : Int) ≤ 999980000 → l.length ≤ 12 → Skip l k → (∀ x, x ∈ l → OpLate L.length temps x) →
 ∃ m p', Ev (fun n => Qag.l0 n L k i s p args temps l) (m.f0, m.f1, m.f2, p') ∧ QaZ L.length m = false ∧ m.f0 = args ∧ 1 ≤ m.f2.length ∧ p ≤ p' ∧ p' ≤ p + 40 * (d : Int) + 2 := by
 intro d
 induction d with
 | zero =>
   intro i k l p hi hd hc hp hl hk hop
   rcases hk with rfl | ⟨k0, k1, k2⟩
   · obtain ⟨m, p', e1, e2, e3, e4, e5, e6⟩ := fin_tells L.length ha ht hc (by omega) l hl (fun x hx => hop x hx _ (by omega))
     refine ⟨m, p', ?_, e2, e3, e4, e5, by omega⟩
     refine Ev.step (fun n => by rw [Qag.l0]) ?_
     refine Ev.ifn (by omega) ?_
     refine Ev.ifn (by omega) ?_
     exact e1
   · obtain ⟨m, p', e1, e2, e3, e4, e5, e6⟩ := fin_tells L.length ha ht hc (by omega) (l.set k.toNat ⟨(Qah l k).f0, (l.length : Int)⟩) (by rw [List.length_set]; exact hl) (fun x hx => by
      rw [List.length_set]
      rcases List.mem_or_eq_of_mem_set hx with hx | hx
      · exact hop x hx _ (by omega)
      · rw [hx, k2]
        show decide (0 ≤ (l.length : Int) ∧ (l.length : Int) ≤ ((l.length + 2 : Nat) : Int) - 1) = true
        exact decide_eq_true ⟨by omega, by omega⟩)
     refine ⟨m, p', ?_, e2, e3, e4, e5, by omega⟩
     refine Ev.step (fun n => by rw [Qag.l0]) ?_
     refine Ev.ifn (by omega) ?_
     refine Ev.ifp k0 ?_
     refine Ev.ifp k0 ?_
     refine Ev.ifp k1 ?_
     exact e1
 | succ d ih =>
   intro i k l p hi hd hc hp hl hk hop
   have hw : Aside0 (wrap64 (i + 1) = i + 1) := ⟨w64 (by omega) (by omega)⟩
   obtain ⟨part, q, f1, f2, f3, f4, f5⟩ := part_tells hL hn0 hn ht.1 hc (by omega)
   have hpl : (part.length : Int) ≤ 30 := by omega
   have hll : (l.length : Int) ≤ 12 := by omega
   have hs1 : Aside0 (wrap64 ((l.length : Int) + (part.length : Int)) = (l.length : Int) + (part.length : Int)) := ⟨w64 (by omega) (by omega)⟩
   have take : ∀ (k' : Int) (l' : List Qac) (p1 : Int), p ≤ p1 → p1 ≤ p + 40 → l'.length ≤ 12 → Skip l' k' → (∀ x, x ∈ l' → OpLate L.length temps x) → ∃ m p', (Ev (fun n => if wrap64 ((l'.length : Int) + (part.length : Int)) ≤ 12 then (if l'.length + part.length < 8796093022208 then (Qag.l0 n L k' (wrap64 (i + 1)) s p1 args temps (l' ++ part)) else none) else (Qag.l0 n L k' (wrap64 (i + 1)) s p1 args temps l')) (m.f0, m.f1, m.f2, p')) ∧
    QaZ L.length m = false ∧ m.f0 = args ∧ 1 ≤ m.f2.length ∧ p ≤ p' ∧ p' ≤ p + 40 * ((d + 1 : Nat) : Int) + 2 := by
    intro k' l' p1 hp0 hp1 hl' hk' hop'
    have hs2 : Aside0 (wrap64 ((l'.length : Int) + (part.length : Int)) = (l'.length : Int) + (part.length : Int)) := ⟨w64 (by omega) (by omega)⟩
    rw [hs2.out, hw.out]
    by_cases c : (l'.length : Int) + (part.length : Int) ≤ 12
    · obtain ⟨m, p', e1, e2, e3, e4, e5, e6⟩ := ih (i + 1) k' (l' ++ part) p1 (by omega) (by omega) (hc.to hp0) (by omega) (by rw [List.length_append]; omega) (hk'.app part) (QbP hop' (fun x hx => (f2 x hx).late))
      exact ⟨m, p', Ev.ifp c (Ev.ifp (by omega) e1), e2, e3, e4, by omega, by omega⟩
    · obtain ⟨m, p', e1, e2, e3, e4, e5, e6⟩ := ih (i + 1) k' l' p1 (by omega) (by omega) (hc.to hp0) (by omega) hl' hk' hop'
      exact ⟨m, p', Ev.ifn c e1, e2, e3, e4, by omega, by omega⟩
   have j1 : ∀ (b : Bool) (p1 : Int), p ≤ p1 → p1 ≤ p + 35 → (b = true → k = -1 ∧ (l.length : Int) + (part.length : Int) ≤ 10) → ∃ m p', Ev (fun n => Qag.j1 n L k i part b s p1 args temps l) (m.f0, m.f1, m.f2, p') ∧ QaZ L.length m = false ∧ m.f0 = args ∧ 1 ≤ m.f2.length ∧ p ≤ p' ∧ p' ≤ p + 40 * ((d + 1 : Nat) : Int) + 2 := by
    intro b p1 hp0 hp1 hb
    cases b with
    | false =>
      obtain ⟨m, p', e1, e⟩ := take k l p1 hp0 (by omega) hl hk hop
      exact ⟨m, p', Ev.step (fun n => by rw [Qag.j1]) (Ev.ifn (by simp) e1), e⟩
    | true =>
      obtain ⟨rfl, hb2⟩ := hb rfl
      obtain ⟨t, k1, k2, k3⟩ := Qbj (hc.to hp0) (by omega) temps
      have hl2 : (l ++ [(⟨2, t⟩ : Qac), ⟨8, 0⟩]).length = l.length + 2 := by simp
      have hw2 : Aside0 (wrap64 ((l.length : Int) + 1) = (l.length : Int) + 1) := ⟨w64 (by omega) (by omega)⟩
      obtain ⟨m, p', e1, e⟩ := take ((l.length : Int) + 1) (l ++ [⟨2, t⟩, ⟨8, 0⟩]) (p1 + 1) (by omega) (by omega) (by rw [hl2]; omega) (.inr ⟨by omega, by rw [hl2]; omega, by
       unfold Qah
       rw [List.getD_eq_getElem?_getD, show ((l.length : Int) + 1).toNat = l.length + 1 from by omega, List.getElem?_append_right (by omega), show l.length + 1 - l.length = 1 from by omega]
       rfl⟩) (QbP hop (all_cons (Qcf k2 (k3 ht.1)).late (all1 (late_zero _ _))))
      refine ⟨m, p', ?_, e⟩
      refine Ev.step (fun n => by rw [Qag.j1]) ?_
      refine Ev.ifp rfl ?_
      refine Ev.bnd k1 ?_
      refine Ev.bindc rfl ?_
      refine Ev.ifp (by simp; omega) ?_
      refine Ev.bindc rfl ?_
      rw [hw2.out]
      exact e1
   by_cases c0 : k < 0
   · obtain ⟨r, h1, h2, h3⟩ := Qbj (hc.to f4) (by omega) 6
     have hk1 : k = -1 := by
      rcases hk with hk | hk
      · exact hk
      · omega
     by_cases r0 : r = 0
     · obtain ⟨m, p', e1, e⟩ := j1 (decide (wrap64 ((l.length : Int) + (part.length : Int)) ≤ 10)) (q + 1) (by omega) (by omega) (fun h => ⟨hk1, by rw [hs1.out] at h; exact of_decide_eq_true h⟩)
       exact ⟨m, p', Ev.step (fun n => by rw [Qag.l0]) (Ev.ifp (by omega) (Ev.bnd f1 (Ev.ifp c0 (Ev.bnd h1 (Ev.ifp r0 e1))))), e⟩
     · obtain ⟨m, p', e1, e⟩ := j1 false (q + 1) (by omega) (by omega) (fun h => by cases h)
       exact ⟨m, p', Ev.step (fun n => by rw [Qag.l0]) (Ev.ifp (by omega) (Ev.bnd f1 (Ev.ifp c0 (Ev.bnd h1 (Ev.ifn r0 e1))))), e⟩
   · obtain ⟨m, p', e1, e⟩ := j1 false q (by omega) (by omega) (fun h => by cases h)
     exact ⟨m, p', Ev.step (fun n => by rw [Qag.l0]) (Ev.ifp (by omega) (Ev.bnd f1 (Ev.ifn c0 e1))), e⟩
theorem method_tells {L : List Int} (hL : ∀ x, x ∈ L → 0 ≤ x ∧ x ≤ 2) (hn : L.length ≤ 100) {s : List Int} {p a : Int} (hc : QbG s p) (hp : p ≤ 999900000) (h0 : 0 ≤ a) (h1 : a < L.length) :
 ∃ m p', Ev (fun k => Qag.f k s p L a) (m.f0, m.f1, m.f2, p') ∧ QaZ L.length m = false ∧ m.f0 = rd L a ∧ 1 ≤ m.f2.length ∧ p ≤ p' ∧ p' ≤ p + 200 := by
 obtain ⟨r, k1, k2, k3⟩ := Qbj hc (by omega) 3
 have k4 := k3 (by omega)
 have hr : 0 ≤ rd L a ∧ rd L a ≤ 2 := by
  unfold rd
  rw [List.getD_eq_getElem?_getD, List.getElem?_eq_getElem (by omega : a.toNat < L.length)]
  exact hL _ (List.getElem_mem _)
 have hw : Aside0 (wrap64 (1 + r) = 1 + r) := ⟨w64 (by omega) (by omega)⟩
 have hm : rd L a ≤ mx (rd L a) (1 + r) ∧ 1 ≤ mx (rd L a) (1 + r) ∧ mx (rd L a) (1 + r) ≤ 4 := by unfold mx; split <;> omega
 obtain ⟨m, p', e1, e2, e3, e4, e5, e6⟩ := methodLoop_tells hL (by omega) hn (args := rd L a) (temps := mx (rd L a) (1 + r)) ⟨hr.1, hr.2, hm.1⟩ ⟨hm.2.1, hm.2.2⟩ (s := s) 4 0 (-1) [] (p + 1) (by omega) (by omega) (hc.to (by omega)) (by omega) (by simp) (.inl rfl) (fun x hx => by simp at hx)
 refine ⟨m, p', ?_, e2, e3, e4, by omega, by omega⟩
 unfold Qag.f
 refine Ev.ifp h0 ?_
 refine Ev.ifp h1 ?_
 refine Ev.bnd k1 ?_
 rw [hw.out]
 exact e1
theorem progLoop_tells {L : List Int} (hL : ∀ x, x ∈ L → 0 ≤ x ∧ x ≤ 2) (hn : L.length ≤ 4) {s : List Int} : ∀ (d : Nat) (i : Int) (acc : List Qae) (p : Int), 0 ≤ i → i + d = L.length → (acc.length : Int) = i → QbG s p → p + 200 * (d : Int) ≤ 999890000 →
 (∀ x, x ∈ acc → QaZ L.length x = false ∧ 1 ≤ x.f2.length) → (∀ (j : Nat) m, acc[j]? = some m → m.f0 = rd L j) →
 ∃ l p', Ev (fun k => QaA.l1 k L i s p acc) (l, p') ∧ l.length = L.length ∧ (∀ x, x ∈ l → QaZ L.length x = false ∧ 1 ≤ x.f2.length) ∧ (∀ (j : Nat) m, l[j]? = some m → m.f0 = rd L j) ∧ p ≤ p' ∧ p' ≤ p + 200 * (d : Int) := by
 intro d
 induction d with
 | zero =>
   intro i acc p hi hd hl hc hp ha hj
   exact ⟨acc, p, Ev.step (fun k => by rw [QaA.l1]) (Ev.ifn (by omega) (Ev.now _)), by omega, ha, hj, by omega, by omega⟩
 | succ d ih =>
   intro i acc p hi hd hl hc hp ha hj
   obtain ⟨m, q, f1, f2, f3, f4, f5, f6⟩ := method_tells hL (by omega) hc (by omega) hi (by omega)
   have hal : acc.length < 3518437208883 := by omega
   have hw : Aside0 (wrap64 (i + 1) = i + 1) := ⟨w64 (by omega) (by omega)⟩
   obtain ⟨l, p', e1, e2, e3, e4, e5, e6⟩ := ih (i + 1) (acc ++ [m]) q (by omega) (by omega) (by rw [List.length_append, List.length_singleton]; omega) (hc.to f5) (by omega) (QbP ha (all1 ⟨f2, f4⟩)) (fun j m' hm' => by
    rcases Nat.lt_or_ge j acc.length with h | h
    · rw [List.getElem?_append_left h] at hm'
      exact hj j m' hm'
    · rw [List.getElem?_append_right h] at hm'
      have hlt := (List.getElem?_eq_some_iff.1 hm').1
      rw [List.length_singleton] at hlt
      have e : j - acc.length = 0 := by omega
      rw [e] at hm'
      simp only [List.getElem?_cons_zero, Option.some.injEq] at hm'
      subst hm'
      rw [f3]
      congr 1
      omega)
   refine ⟨l, p', ?_, e2, e3, e4, by omega, by omega⟩
   refine Ev.step (fun k => by rw [QaA.l1]) ?_
   refine Ev.ifp (by omega) ?_
   refine Ev.bnd f1 ?_
   refine Ev.ifp hal ?_
   rw [hw.out]
   exact e1
theorem prog_tells {s : List Int} {p : Int} (hc : QbG s p) (hp : p ≤ 999000000) :
 ∃ l p', Ev (fun k => QaA.f k s p) (l, p') ∧ QbB l = true ∧ (∀ x, x ∈ l → 1 ≤ x.f2.length) ∧ 2 ≤ l.length ∧ p ≤ p' ∧ p' ≤ p + 2000 := by
 have end_ : ∀ (L : List Int) (q : Int), 2 ≤ L.length → L.length ≤ 4 → rd L 0 = 0 → (∀ x, x ∈ L → 0 ≤ x ∧ x ≤ 2) → p ≤ q → q ≤ p + 100 → ∃ l p', Ev (fun k => QaA.l1 k L 0 s q []) (l, p') ∧ QbB l = true ∧ (∀ x, x ∈ l → 1 ≤ x.f2.length) ∧ 2 ≤ l.length ∧ p ≤ p' ∧ p' ≤ p + 2000 := by
  intro L q hL2 hL4 h0 hL hq0 hq1
  obtain ⟨l, p', e1, e2, e3, e4, e5, e6⟩ := progLoop_tells hL hL4 (s := s) L.length 0 [] q (by omega) (by omega) (by simp) (hc.to hq0) (by omega) (fun x hx => by simp at hx) (fun j m hm => by simp at hm)
  refine ⟨l, p', e1, ?_, fun x hx => (e3 x hx).2, by omega, by omega, by omega⟩
  unfold QbB
  have hz : (Qaa l 0).f0 = 0 := by
   have hg : l[0]? = some l[0] := List.getElem?_eq_getElem (by omega)
   unfold Qaa
   rw [List.getD_eq_getElem?_getD]
   show (l[0]?.getD QbH).f0 = 0
   rw [hg]
   show l[0].f0 = 0
   rw [e4 0 _ hg]
   exact h0
  rw [if_pos ⟨by omega, by omega, hz⟩]
  have : l.any (QaZ l.length) = false := by
   rw [List.any_eq_false]
   intro x hx
   rw [e2, (e3 x hx).1]
   simp
  rw [this]
  rfl
 have loop : ∀ (d : Nat) (x4 : Int) (L : List Int) (q : Int), x4 = d → 1 ≤ L.length → 2 ≤ L.length + d → L.length + d ≤ 4 → rd L 0 = 0 → (∀ x, x ∈ L → 0 ≤ x ∧ x ≤ 2) → p ≤ q → q + d ≤ p + 100 → ∃ l p', Ev (fun k => QaA.l0 k L x4 s q) (l, p') ∧ QbB l = true ∧ (∀ x, x ∈ l → 1 ≤ x.f2.length) ∧ 2 ≤ l.length ∧ p ≤ p' ∧ p' ≤ p + 2000 := by
  intro d
  induction d with
  | zero =>
    intro x4 L q hx h1 h2 h4 h0 hL hq0 hq1
    obtain ⟨l, p', e1, e⟩ := end_ L q (by omega) (by omega) h0 hL hq0 (by omega)
    exact ⟨l, p', Ev.step (fun k => by rw [QaA.l0]) (Ev.ifn (by omega) e1), e⟩
  | succ d ih =>
    intro x4 L q hx h1 h2 h4 h0 hL hq0 hq1
    obtain ⟨r, k1, k2, k3⟩ := Qbj (hc.to hq0) (by omega) 3
    have k4 := k3 (by omega)
    have hw : Aside0 (wrap64 (x4 - 1) = x4 - 1) := ⟨w64 (by omega) (by omega)⟩
    obtain ⟨l, p', e1, e⟩ := ih (x4 - 1) (L ++ [r]) (q + 1) (by omega) (by simp) (by simp; omega) (by simp; omega) (by
     unfold rd at h0 ⊢
     rw [List.getD_eq_getElem?_getD] at h0 ⊢
     rw [List.getElem?_append_left (show (0 : Int).toNat < L.length by show 0 < L.length; omega)]
     exact h0) (QbP hL (all1 ⟨k2, by omega⟩)) (by omega) (by omega)
    refine ⟨l, p', ?_, e⟩
    refine Ev.step (fun k => by rw [QaA.l0]) ?_
    refine Ev.ifp (by omega) ?_
    refine Ev.bnd k1 ?_
    refine Ev.ifp (by omega) ?_
    rw [hw.out]
    exact e1
 obtain ⟨r, k1, k2, k3⟩ := Qbj hc (by omega) 3
 have k4 := k3 (by omega)
 obtain ⟨l, p', e1, e⟩ := loop (1 + r).toNat (1 + r) [0] (p + 1) (by omega) (by simp) (by simp; omega) (by simp; omega) rfl (all1 ⟨by omega, by omega⟩) (by omega) (by omega)
 refine ⟨l, p', ?_, e⟩
 unfold QaA.f
 refine Ev.bnd k1 ?_
 rw [w64 (x := 1 + r) (by omega) (by omega)]
 exact e1
end Go.Proofs.Ytabcijheemjplaa.G
namespace Go.Proofs.Ytabcijheemjplaa.G
open Go.RowKit Go.Proofs.YtabcijheemjplaaW.PrintWords Go.Proofs.YtabcijheemjplaaW.PrintLast Go.Proofs.YtabcijheemjplaaW.PrintMore
attribute [local go_sem] QaQ QaR Qa3 Qa4 QaJ QaK QaS QaT
set_option linter.unusedVariables false
set_option linter.unusedSimpArgs false
structure DrSt (w0 w W : World) (g : Nat) (s : List Int) (p : Int) : Prop where
 st : Qad w0 W g s p
 bel : Below w0.heap.size w0 W
 keep : Qai w W g none
 glt : g < w.heap.size
section
variable {w0 w W W1 : World} {g : Nat} {s : List Int} {p p' : Int}
theorem DrSt.new (hI : Qad w0 w g s p) (hB : Below w0.heap.size w0 w) : DrSt w0 w w g s p := ⟨hI, hB, Qai.refl _ _ _, hI.lt⟩
theorem DrSt.below (h : DrSt w0 w W g s p) (hb : Below W.heap.size W W1) : DrSt w0 w W1 g s p :=
 ⟨h.st.below hb, Qa_ h.bel h.bel.size hb, h.keep.trans (Qai.of_below hb g none) (.inl rfl), h.glt⟩
theorem DrSt.alloc (h : DrSt w0 w W g s p) (o : Obj) : DrSt w0 w (W.alloc o) g s p := h.below (Qal (Below.refl _ _) o)
theorem DrSt.drew (h : DrSt w0 w W g s p) : DrSt w0 w W.drew g s p := h.below (QbR (Below.refl _ _))
theorem DrSt.drewN (h : DrSt w0 w W g s p) (n : Nat) : DrSt w0 w (W.drewN n) g s p := h.below (Qar (Below.refl _ _) n)
theorem DrSt.set_ (h : DrSt w0 w W g s p) {b j : Nat} (hb : w.heap.size ≤ b) (u : Value) : DrSt w0 w (W.setCell ⟨b, j, none⟩ u) g s p :=
 ⟨h.st.far (by have := h.glt; show g ≠ b; omega) u, h.bel.setCell (by have := h.st.ge; have := h.glt; show w0.heap.size ≤ b; omega) u,
  ⟨Nat.le_trans h.keep.1 (by rw [World.size_setCell]; exact Nat.le_refl _), fun i hi e1 e2 => (Qa1 (by show i ≠ b; omega)).trans (h.keep.2 i hi e1 e2)⟩, h.glt⟩
theorem DrSt.call (h : DrSt w0 w W g s p) (h1 : Qad w0 W1 g s p') (h2 : Below w0.heap.size w0 W1) (h3 : Qai W W1 g none) : DrSt w0 w W1 g s p' := ⟨h1, h2, h.keep.trans h3 (.inl rfl), h.glt⟩
end
structure QbT (lo hi : Nat) (A : Option Addr) (c : Nat) (l : List Qae) (w' : World) : Prop where
 cap : l.length ≤ c
 held : ∀ W_ : World, (∀ k, lo ≤ k → k < hi → W_.heap[k]? = w'.heap[k]?) → Kd.C QaD W_ A l.length l
 few : l.length ≤ 7
 ops : ∀ m, m ∈ l → m.f2.length ≤ 1000
theorem QbT.now {lo hi : Nat} {A : Option Addr} {c : Nat} {l : List Qae} {w : World} (h : QbT lo hi A c l w) : Kd.C QaD w A l.length l := h.held w fun _ _ _ => rfl
theorem QbT.move {lo hi lo' hi' : Nat} {A : Option Addr} {c : Nat} {l : List Qae} {w w1 : World} (h : QbT lo hi A c l w) (hl : lo' ≤ lo) (hh : hi ≤ hi') (hm : ∀ k, lo ≤ k → k < hi → w1.heap[k]? = w.heap[k]?) : QbT lo' hi' A c l w1 :=
 ⟨h.cap, fun W_ hW => h.held W_ fun k h1 h2 => (hW k (by omega) (by omega)).trans (hm k h1 h2), h.few, h.ops⟩
theorem QbT.keep {lo hi g : Nat} {A : Option Addr} {c : Nat} {l : List Qae} {w w1 : World} (h : QbT lo hi A c l w) (hh : hi ≤ w.heap.size) (hg : g < lo) (hk : Qai w w1 g none) : QbT lo hi A c l w1 :=
 h.move (Nat.le_refl _) (Nat.le_refl _) fun k h1 h2 => hk.2 k (by omega) (by omega) (by simp)
theorem QbT.alloc {lo hi : Nat} {A : Option Addr} {c : Nat} {l : List Qae} {w : World} (h : QbT lo hi A c l w) (hh : hi ≤ w.heap.size) (o : Obj) : QbT lo hi A c l (w.alloc o) :=
 h.move (Nat.le_refl _) (Nat.le_refl _) fun k _ h2 => Below.heap_alloc _ _ _ (by omega)
theorem QbT.set_ {lo hi b j : Nat} {A : Option Addr} {c : Nat} {l : List Qae} {w : World} (h : QbT lo hi A c l w) (hb : b < lo ∨ hi ≤ b) (u : Value) : QbT lo hi A c l (w.setCell ⟨b, j, none⟩ u) :=
 h.move (Nat.le_refl _) (Nat.le_refl _) fun k h1 h2 => Qa1 (by show k ≠ b; omega)
theorem progOkB_few {l : List Qae} (h : QbB l = true) : l.length ≤ 4 ∧ ∀ m, m ∈ l → m.f2.length ≤ 14 := by
 unfold QbB at h
 split at h
 · next hc =>
   refine ⟨hc.2.1, fun m hm => ?_⟩
   have h2 : l.any (QaZ l.length) = false := by simpa using h
   rw [List.any_eq_false] at h2
   have h3 := h2 m hm
   unfold QaZ at h3
   split at h3
   · next hc2 => exact hc2.2.2.2.2
   · simp at h3
 · cases h
theorem prog_any (g : Nat) (s : List Int) (p : Int) (w0 w : World) (hI : Qad w0 w g s p) (hB : Below w0.heap.size w0 w) (hc : QbG s p) (hp : p ≤ 900000000) :
 Calls Try.prog 54 #[.pointer (some ⟨g, 0, none⟩)] w fun e w' => ∃ A c l p', e = .returned (.agg #[.slice A l.length c]) ∧ QbT w.heap.size w'.heap.size A c l w' ∧ Qad w0 w' g s p' ∧ Below w0.heap.size w0 w' ∧ Qai w w' g none ∧
  (QbB l = true ∧ (∀ x, x ∈ l → 1 ≤ x.f2.length) ∧ 2 ≤ l.length ∧ p ≤ p' ∧ p' ≤ p + 2000) := by
 obtain ⟨l, p', h1, h2, h3, h4, h5, h6⟩ := prog_tells hc (by omega)
 obtain ⟨k, hk⟩ := h1.rounds
 have glt := hI.lt
 refine (QaA.calls k g s p l p' w0 w hI hB hk).mono ?_
 rintro e w' ⟨v, rfl, hS, hI', hB', hK⟩
 have hR := Kd.S_R hS
 obtain ⟨A, c, rfl, hl, hC⟩ := Kd.R_reads hR
 have hf := progOkB_few h2
 refine ⟨A, c, l, p', rfl, ⟨hl, fun W_ hW => ?_, by have := hf.1; omega, fun m hm => by have := hf.2 m hm; omega⟩, hI', hB', hK, h2, h3, h4, h5, h6⟩
 obtain ⟨A2, c2, e2, _, hC2⟩ := Kd.R_reads (Kd.R_move (Kd.R_bound hR) (w1 := W_) (fun k hk => hW k hk.2.1 hk.2.2.1))
 injection e2 with e2
 subst e2
 exact hC2
end Go.Proofs.Ytabcijheemjplaa.G
namespace Go.Proofs.Ytabcijheemjplaa.G
open Go.RowKit Go.Proofs.YtabcijheemjplaaW.PrintWords Go.Proofs.YtabcijheemjplaaW.PrintLast Go.Proofs.YtabcijheemjplaaW.PrintMore
attribute [local go_sem] QaQ QaR Qa3 Qa4 QaJ QaK QaS QaT
set_option linter.unusedVariables false
set_option linter.unusedSimpArgs false
theorem open_any (A0 : Option Addr) (c0 : Nat) (l0 : List Int) (w0 w : World) (hB : Below w0.heap.size w0 w) (hr0 : Kd.C (Kd.int .u8) w0 A0 l0.length l0) (hc0 : l0.length ≤ c0) (hl : l0.length ≤ 1048576) (hb : ∀ x, x ∈ l0 → 0 ≤ x ∧ x ≤ 255) :
 Calls Try.prog 53 #[.slice A0 l0.length c0] w fun e w' => ∃ (g : Nat) (s : List Int), e = .returned (.pointer (some ⟨g, 0, none⟩)) ∧ Qad w0 w' g s 0 ∧ Below w0.heap.size w0 w' ∧ Below w.heap.size w w' ∧ QbG s 0 := by
 have h : ∃ s, Qcd.f l0 = some (s, 0) ∧ QbG s 0 := by
  unfold Qcd.f
  by_cases c : (l0.length : Int) > 2000
  · exact ⟨l0.take 2000, by rw [if_pos c, if_pos (by omega)], by rw [List.length_take]; omega, fun x hx => hb x (List.mem_of_mem_take hx), by omega⟩
  · exact ⟨l0, by rw [if_neg c], hl, hb, by omega⟩
 obtain ⟨s, h1, h2⟩ := h
 exact (Qcd.calls A0 c0 l0 s 0 w0 w hB hr0 hc0 h1).mono fun e w' ⟨g, he, hI, hb0, hb1⟩ => ⟨g, s, he, hI, hb0, hb1, h2⟩
end Go.Proofs.Ytabcijheemjplaa.G
namespace Go.Proofs.Ytabcijheemjplaa.G
open Go.RowKit Go.Proofs.YtabcijheemjplaaW.PrintWords Go.Proofs.YtabcijheemjplaaW.PrintLast Go.Proofs.YtabcijheemjplaaW.PrintMore
attribute [local go_sem] QaQ QaR Qa3 Qa4 QaJ QaK QaS QaT
set_option linter.unusedVariables false
set_option linter.unusedSimpArgs false
theorem mMost_more (n nl : Nat) (y no : Int) : mMost n (nl : Int) y no ≤ mMost n ((nl + 1 : Nat) : Int) y no := by
 unfold mMost
 by_cases hn : n < 19
 · have h : n = 0 ∨ n = 1 ∨ n = 2 ∨ n = 3 ∨ n = 4 ∨ n = 5 ∨ n = 6 ∨ n = 7 ∨ n = 8 ∨ n = 9 ∨ n = 10 ∨ n = 11 ∨ n = 12 ∨ n = 13 ∨ n = 14 ∨ n = 15 ∨ n = 16 ∨ n = 17 ∨ n = 18 := by omega
   rcases h with rfl | rfl | rfl | rfl | rfl | rfl | rfl | rfl | rfl | rfl | rfl | rfl | rfl | rfl | rfl | rfl | rfl | rfl | rfl <;> simp <;> omega
 · rw [List.getD_eq_getElem?_getD, List.getElem?_eq_none (by simp; omega), List.getD_eq_getElem?_getD, List.getElem?_eq_none (by simp; omega)]
   exact Int.le_refl _
theorem opOkB_more {n : Nat} {y : Int} {m : Nat} {k a : Int} (h : Qb8 n y m k a = true) : Qb8 (n + 1) y m k a = true := by
 unfold Qb8 at h ⊢
 split
 · next hk =>
   rw [if_pos hk] at h
   split
   · next hg => rw [if_pos hg] at h; exact h
   · next hg =>
     rw [if_neg hg] at h
     have h1 := of_decide_eq_true h
     have h2 := mMost_more k.toNat n y m
     exact decide_eq_true ⟨h1.1, by omega⟩
 · next hk => rw [if_neg hk] at h; exact h
theorem methodBadB_more {n : Nat} {m : Qae} (h : QaZ n m = false) : QaZ (n + 1) m = false := by
 unfold QaZ at h ⊢
 split
 · next hc =>
   rw [if_pos hc] at h
   rw [List.any_eq_false] at h ⊢
   intro op hop
   have h2 := h op hop
   simp only [Bool.not_eq_true, Bool.not_eq_false'] at h2 ⊢
   exact opOkB_more h2
 · next hc => rw [if_neg hc] at h; exact h
theorem progOkB_snoc {l : List Qae} (h : QbB l = true) : QbB (l ++ [(⟨0, 0, []⟩ : Qae)]) = decide (l.length < 4) := by
 unfold QbB at h
 split at h
 · next hc =>
   have h2 : l.any (QaZ l.length) = false := by simpa using h
   rw [List.any_eq_false] at h2
   have hrd : (Qaa (l ++ [(⟨0, 0, []⟩ : Qae)]) 0).f0 = 0 := by
    rw [show Qaa (l ++ [(⟨0, 0, []⟩ : Qae)]) 0 = Qaa l 0 from ?_]
    · exact hc.2.2
    · show (l ++ [(⟨0, 0, []⟩ : Qae)]).getD (0 : Int).toNat QbH = l.getD (0 : Int).toNat QbH
      rw [List.getD_eq_getElem?_getD, List.getD_eq_getElem?_getD, List.getElem?_append_left (show (0 : Int).toNat < l.length by have := hc.1; simp only [Int.toNat_zero]; omega)]
   have hlen : (l ++ [(⟨0, 0, []⟩ : Qae)]).length = l.length + 1 := by simp
   unfold QbB
   rw [hlen, hrd]
   by_cases h4 : l.length < 4
   · rw [if_pos ⟨by omega, by omega, rfl⟩, decide_eq_true h4]
     have : (l ++ [(⟨0, 0, []⟩ : Qae)]).any (QaZ (l.length + 1)) = false := by
      rw [List.any_eq_false]
      intro m hm
      rcases List.mem_append.1 hm with hm | hm
      · have h3 := h2 m hm
        rw [Bool.not_eq_true] at h3 ⊢
        exact methodBadB_more h3
      · rw [List.mem_singleton.1 hm, Bool.not_eq_true]
        rfl
     rw [this]
     rfl
   · rw [if_neg (by omega), decide_eq_false h4]
 · cases h
theorem drawn_few {lo hi : Nat} {A : Option Addr} {c : Nat} {l : List Qae} {w : World} (h : QbT lo hi A c l w) : fewI l := ⟨by have := h.few; omega, fun m hm => by have := h.ops m hm; omega⟩
theorem own_ne {v : Value} {n m : Nat} (h : ∃ b, v.ownBlock = some b ∧ m ≤ b) (hn : n < m) : some n ≠ v.ownBlock := by
 obtain ⟨b, hb, hge⟩ := h
 rw [hb]
 intro he
 injection he with he
 omega
theorem own_ne2 {v v' : Value} {n m : Nat} (hat : v'.ownBlock = v.ownBlock ∨ ∃ b, v'.ownBlock = some b ∧ m ≤ b) (h : some n ≠ v.ownBlock) (hn : n < m) : some n ≠ v'.ownBlock := by
 rcases hat with hat | hat
 · rw [hat]; exact h
 · exact own_ne hat hn
end Go.Proofs.Ytabcijheemjplaa.G
namespace Go.Proofs.Ytabcijheemjplaa.G
set_option linter.unusedSimpArgs false
open Go.RowKit Go.Proofs.YtabcijheemjplaaW.PrintWords Go.Proofs.YtabcijheemjplaaW.PrintLast Go.Proofs.YtabcijheemjplaaW.PrintMore
theorem rd_set {l : List Int} {k i v : Int} (hk : 0 ≤ k) (hkl : k < (l.length : Int)) (hi : 0 ≤ i) : rd (l.set k.toNat v) i = if i = k then v else rd l i := by
 unfold rd
 obtain ⟨k, rfl⟩ := Int.eq_ofNat_of_zero_le hk
 obtain ⟨i, rfl⟩ := Int.eq_ofNat_of_zero_le hi
 simp only [Int.toNat_natCast, List.getD_eq_getElem?_getD]
 by_cases e : i = k
 · subst e
   rw [List.getElem?_set_self (by omega), if_pos rfl]
   rfl
 · rw [List.getElem?_set_ne (by omega), if_neg (by omega)]
theorem progOk_facts {l : List Qae} (h : QbB l = true) : 1 ≤ l.length ∧ l.length ≤ 4 ∧ (Qaa l 0).f0 = 0 ∧ ∀ m ∈ l, (0 ≤ m.f0 ∧ m.f0 ≤ 2 ∧ m.f0 ≤ m.f1 ∧ m.f1 ≤ 4 ∧ m.f2.length ≤ 14) ∧ ∀ op ∈ m.f2, Qb8 l.length m.f1 m.f2.length op.f0 op.f1 = true := by
 unfold QbB at h
 split at h
 · rename_i c
   refine ⟨c.1, c.2.1, c.2.2, fun m hm => ?_⟩
   have hb : QaZ l.length m = false := by
    cases hx : QaZ l.length m with
    | false => rfl
    | true => rw [List.any_eq_true.mpr ⟨m, hm, hx⟩] at h; exact absurd h (by simp)
   unfold QaZ at hb
   split at hb
   · rename_i d
     refine ⟨d, fun op hop => ?_⟩
     cases hx : Qb8 l.length m.f1 m.f2.length op.f0 op.f1 with
     | true => rfl
     | false => rw [List.any_eq_true.mpr ⟨op, hop, by simp [hx]⟩] at hb; exact absurd hb (by simp)
   · exact absurd hb (by simp)
 · exact absurd h (by simp)
theorem opOk_jump {nl no : Nat} {y k a : Int} (h : Qb8 nl y no k a = true) : (1 ≤ k ∧ k ≤ 18) ∧ (k = 7 ∨ k = 8 → 0 ≤ a ∧ a < no) := by
 unfold Qb8 at h
 split at h
 · rename_i c
   refine ⟨c, fun hk => ?_⟩
   rcases hk with rfl | rfl <;> simp [mG, mMost] at h <;> omega
 · exact absurd h (by simp)
theorem takes_range {l : List Qae} (hl : ∀ m ∈ l, 0 ≤ m.f0 ∧ m.f0 ≤ 2) (k a : Int) : 0 ≤ (QbA l k a).1 ∧ (QbA l k a).1 ≤ 2 ∧ 0 ≤ (QbA l k a).2 ∧ (QbA l k a).2 ≤ 1 := by
 unfold QbA
 split
 · rename_i c
   split
   · split
     · rename_i d
       obtain ⟨a, rfl⟩ := Int.eq_ofNat_of_zero_le d.1
       rw [Qbl (by omega)]
       have := hl _ (List.getElem_mem (l := l) (n := a) (by omega))
       exact ⟨this.1, this.2, (by decide : (0 : Int) ≤ 1), (by decide : (1 : Int) ≤ 1)⟩
     · decide
   · obtain ⟨n, rfl⟩ := Int.eq_ofNat_of_zero_le (show 0 ≤ k by omega)
     rcases kinds18 (n := n) (by omega) (by omega) with rfl | rfl | rfl | rfl | rfl | rfl | rfl | rfl | rfl | rfl | rfl | rfl | rfl | rfl | rfl | rfl | rfl | rfl <;> decide
 · decide
def dB (l : List Qae) (k a d : Int) : Int := if (QbA l k a).1 > d then -1 else if d - (QbA l k a).1 + (QbA l k a).2 > 6 then -1 else d - (QbA l k a).1 + (QbA l k a).2
def nB (k a at_ : Int) : List Int := if k = 10 then [] else if k = 7 then [a] else if k = 8 then [at_ + 1, a] else [at_ + 1]
theorem l2Deep_tells {l : List Qae} (hn : l.length ≤ 1048576) (hl : ∀ m ∈ l, 0 ≤ m.f0 ∧ m.f0 ≤ 2) (k a d : Int) (h0 : -1 ≤ d) (h1 : d ≤ 6) : Ev (fun n => Qa7.f n l k a d) (dB l k a d) := by
 unfold Qa7.f dB
 have hr := takes_range hl k a
 refine Ev.bnd (specOpTakes_tells l k a hn) ?_
 rw [w64 (x := d - _) (by omega) (by omega), w64 (by omega) (by omega)]
 split
 · exact Ev.now _
 · split <;> exact Ev.now _
theorem l2Next_tells (k a at_ : Int) (h0 : 0 ≤ at_) (h1 : at_ ≤ 1048576) : QbC.f k a at_ = some (nB k a at_) := by
 unfold QbC.f nB
 rw [w64 (by omega) (by omega)]
 split
 · rfl
 · split
   · rfl
   · split <;> rfl
theorem next_tells (x y : Int) (ops : List Qac) (at_ : Int) (h0 : 0 ≤ at_) (h1 : at_ < ops.length) (hn : ops.length ≤ 1048576) : Qbg.f x y ops at_ = some (nB (Qah ops at_).f0 (Qah ops at_).f1 at_) := by
 unfold Qbg.f nB
 rw [if_pos h0, if_pos h1, w64 (by omega) (by omega)]
 by_cases e7 : (Qah ops at_).f0 = 7
 · rw [if_pos e7, if_neg (by omega), if_pos e7]
 · by_cases e8 : (Qah ops at_).f0 = 8
   · rw [if_neg e7, if_pos e8, if_neg (by omega), if_neg e7, if_pos e8]
   · by_cases e10 : (Qah ops at_).f0 = 10
     · rw [if_neg e7, if_neg e8, if_pos e10, if_pos e10]
     · rw [if_neg e7, if_neg e8, if_neg e10, if_neg e10, if_neg e7, if_neg e8]
def negs (out : List Int) : Nat := out.countP (fun x => decide (x < 0))
theorem negs_set {out : List Int} {k v : Int} (hk : 0 ≤ k) (hkl : k < (out.length : Int)) (hn : rd out k < 0) (hv : 0 ≤ v) : negs (out.set k.toNat v) + 1 = negs out := by
 unfold negs
 obtain ⟨k, rfl⟩ := Int.eq_ofNat_of_zero_le hk
 unfold rd at hn
 rw [rdget (by omega)] at hn
 have hp : 0 < out.countP (fun x => decide (x < 0)) := List.countP_pos_iff.mpr ⟨out[k]'(by omega), List.getElem_mem _, by simpa using hn⟩
 rw [Int.toNat_natCast, List.countP_set (by omega)]
 simp only [decide_eq_true hn, if_true, decide_eq_false (show ¬ v < 0 by omega)]
 simp
 omega
section
variable (l : List Qae) (x y : Int) (ops : List Qac)
def dAt (out : List Int) (i : Int) : Int := dB l (Qah ops i).f0 (Qah ops i).f1 (rd out i)
structure DInv (out todo : List Int) (most : Int) : Prop where
 len : out.length = ops.length
 rng : ∀ i : Int, 0 ≤ i → i < ops.length → -1 ≤ rd out i ∧ rd out i ≤ 6
 td : ∀ t ∈ todo, 0 ≤ t ∧ t < (ops.length : Int) ∧ 0 ≤ rd out t
 up : ∀ i : Int, 0 ≤ i → i < ops.length → 0 ≤ rd out i → i ∈ todo ∨ (0 ≤ dAt l ops out i ∧ rd out i ≤ most ∧ dAt l ops out i ≤ most)
 dn : 0 ≤ most ∧ (most = 0 ∨ ∃ i : Int, 0 ≤ i ∧ i < ops.length ∧ 0 ≤ rd out i ∧ (most = rd out i ∨ most = dAt l ops out i))
theorem DInv.more {l : List Qae} {ops : List Qac} {out todo : List Int} {most k v : Int} (h : DInv l ops out todo most) (hk : 0 ≤ k) (hkl : k < ops.length) (hn : rd out k < 0) (hv : 0 ≤ v) (hv6 : v ≤ 6) : DInv l ops (out.set k.toNat v) (todo ++ [k]) most := by
 have hlen := h.len
 have hrd : ∀ i : Int, 0 ≤ i → rd (out.set k.toNat v) i = if i = k then v else rd out i := fun i hi => rd_set hk (by omega) hi
 refine ⟨by simpa using h.len, fun i hi hil => ?_, fun t ht => ?_, fun i hi hil hr => ?_, h.dn.1, ?_⟩
 · rw [hrd i hi]
   have := h.rng i hi hil
   split <;> omega
 · rcases List.mem_append.mp ht with ht | ht
   · obtain ⟨a, b, c⟩ := h.td t ht
     refine ⟨a, b, ?_⟩
     rw [hrd t a]
     split <;> omega
   · obtain rfl := List.mem_singleton.mp ht
     refine ⟨hk, hkl, ?_⟩
     rw [hrd t hk, if_pos rfl]
     exact hv
 · by_cases e : i = k
   · exact .inl (List.mem_append.mpr (.inr (List.mem_singleton.mpr e)))
   · have e1 : rd (out.set k.toNat v) i = rd out i := by rw [hrd i hi, if_neg e]
     unfold dAt
     rw [e1] at hr ⊢
     rcases h.up i hi hil hr with h1 | h1
     · exact .inl (List.mem_append.mpr (.inl h1))
     · exact .inr h1
 · rcases h.dn.2 with h1 | ⟨i, hi, hil, hr, hm⟩
   · exact .inl h1
   · refine .inr ⟨i, hi, hil, ?_⟩
     have e : i ≠ k := fun e => by subst e; omega
     have e1 : rd (out.set k.toNat v) i = rd out i := by rw [hrd i hi, if_neg e]
     unfold dAt
     rw [e1]
     exact ⟨hr, hm⟩
structure DMove (n : Nat) (out todo out' todo' : List Int) : Prop where
 ext : ∀ i : Int, 0 ≤ i → i < n → 0 ≤ rd out i → rd out' i = rd out i
 sub : ∀ t, t ∈ todo → t ∈ todo'
 new : ∀ i : Int, 0 ≤ i → i < n → rd out i < 0 → 0 ≤ rd out' i → i ∈ todo'
theorem DMove.refl (n : Nat) (out todo : List Int) : DMove n out todo out todo := ⟨fun _ _ _ _ => rfl, fun _ h => h, fun i _ _ h1 h2 => absurd h2 (by omega)⟩
theorem DMove.trans {n : Nat} {o t o1 t1 o2 t2 : List Int} (h : DMove n o t o1 t1) (k : DMove n o1 t1 o2 t2) : DMove n o t o2 t2 :=
 ⟨fun i h0 h1 h2 => (k.ext i h0 h1 (by rw [h.ext i h0 h1 h2]; exact h2)).trans (h.ext i h0 h1 h2), fun x hx => k.sub x (h.sub x hx), fun i h0 h1 h2 h3 => by
  by_cases e : rd o1 i < 0
  · exact k.new i h0 h1 e h3
  · exact k.sub i (h.new i h0 h1 h2 (by omega))⟩
theorem DMove.put {n : Nat} {out todo : List Int} {k v : Int} (hl : out.length = n) (hk : 0 ≤ k) (hkl : k < n) (hneg : rd out k < 0) : DMove n out todo (out.set k.toNat v) (todo ++ [k]) := by
 have hrd : ∀ i : Int, 0 ≤ i → rd (out.set k.toNat v) i = if i = k then v else rd out i := fun i hi => rd_set hk (by omega) hi
 refine ⟨fun i h0 h1 h2 => ?_, fun t ht => List.mem_append.mpr (.inl ht), fun i h0 h1 h2 h3 => ?_⟩
 · rw [hrd i h0, if_neg (fun e => by subst e; omega)]
 · rw [hrd i h0] at h3
   split at h3
   · next e => exact List.mem_append.mpr (.inr (List.mem_singleton.mpr e))
   · omega
def DFl (l : List Qae) (ops : List Qac) (out todo : List Int) : Prop :=
 ∀ i : Int, 0 ≤ i → i < ops.length → 0 ≤ rd out i → i ∈ todo ∨ (0 ≤ dAt l ops out i ∧ ∀ k, k ∈ nB (Qah ops i).f0 (Qah ops i).f1 i → 0 ≤ k ∧ k < ops.length ∧ rd out k = dAt l ops out i)
def DFail (S : Nat → Option (List Int × Bool)) (M : Nat → Option (List Int × Int × Bool)) : Prop := ∃ o, Ev S (o, false) ∧ Ev M ([], 0, false)
theorem deep_inner (most deep : Int) (hd0 : 0 ≤ deep) (hd6 : deep ≤ 6) (at_ : Int) (nx : List Int) (hnx : nx.length ≤ 2) (hnx0 : ∀ i : Nat, i < nx.length → 0 ≤ rd nx i) (m : Nat) (hm : m ≤ 1000) :
 ∀ (d i : Nat) (out todo : List Int), nx.length - i = d → i ≤ nx.length → DInv l ops out todo most → todo.length + negs out ≤ m →
  DFail (fun k => Qat.l2 k out todo deep nx i l x y ops) (fun k => Qak.l2 k out most (at_ :: todo) deep nx nx.length i l x y ops) ∨
  ∃ out' todo', DInv l ops out' todo' most ∧ (DMove ops.length out todo out' todo' ∧ ∀ j : Nat, i ≤ j → j < nx.length → rd nx j < ops.length ∧ rd out' (rd nx j) = deep) ∧ todo'.length + negs out' ≤ m ∧ (∀ r, Ev (fun k => Qat.l1 k out' todo' l x y ops) r → Ev (fun k => Qat.l2 k out todo deep nx i l x y ops) r) ∧
   (∀ r, Ev (fun k => Qak.l1 k out' most todo' l x y ops) r → Ev (fun k => Qak.l2 k out most (at_ :: todo) deep nx nx.length i l x y ops) r) := by
 intro d
 induction d with
 | zero =>
   intro i out todo hd hi hI hm
   refine .inr ⟨out, todo, hI, ⟨DMove.refl _ _ _, fun j h1 h2 => by omega⟩, hm, fun r hr => ?_, fun r hr => ?_⟩
   · exact Ev.step (fun k => by rw [Qat.l2]) (Ev.ifn (by omega) (Ev.ifn (by omega) hr))
   · refine Ev.step (fun k => by rw [Qak.l2]) (Ev.ifn (by omega) (Ev.ifp (by simp; omega) ?_))
     exact hr
 | succ d ih =>
   intro i out todo hd hi hI hm
   have hlen := hI.len
   have hk0 := hnx0 i (by omega)
   by_cases hk : rd nx i ≥ (ops.length : Int)
   · refine .inl ⟨out, ?_, ?_⟩
     · exact Ev.step (fun k => by rw [Qat.l2]) (Ev.ifp (by omega) (Ev.ifp (by omega) (Ev.ifn (by omega) (Ev.ifp hk (Ev.step (fun k => by rw [Qat.j3]) (Ev.ifp rfl (Ev.now _)))))))
     · exact Ev.step (fun k => by rw [Qak.l2]) (Ev.ifp (by omega) (Ev.ifp (by omega) (Ev.ifp (by omega) (Ev.ifp hk (Ev.now _)))))
   · have hr := hI.rng (rd nx i) hk0 (by omega)
     by_cases hneg : rd out (rd nx i) < 0
     · have hng := negs_set (out := out) (k := rd nx i) (v := deep) hk0 (by omega) hneg hd0
       have ec : ((i + 1 : Nat) : Int) = (i : Int) + 1 := by omega
       rcases ih (i + 1) (out.set (rd nx i).toNat deep) (todo ++ [rd nx i]) (by omega) (by omega) (hI.more hk0 (by omega) hneg hd0 hd6) (by simp; omega) with ⟨o, h1, h2⟩ | ⟨o, t, hI', ⟨hMv, hNx⟩, hm', h1, h2⟩
       · refine .inl ⟨o, ?_, ?_⟩
         · refine Ev.step (fun k => by rw [Qat.l2]) (Ev.ifp (by omega) (Ev.ifp (by omega) (Ev.ifn (by omega) (Ev.ifn hk (Ev.ifp hk0 (Ev.ifp (by omega) (Ev.ifn (by omega) (Ev.step (fun k => by rw [Qat.j3]) (Ev.ifn (by simp) (Ev.ifp hk0 (Ev.ifp (by omega) (Ev.ifp hneg (Ev.ifp (by omega) ?_)))))))))))))
           rw [w64 (by omega) (by omega), ← ec]
           exact h1
         · refine Ev.step (fun k => by rw [Qak.l2]) (Ev.ifp (by omega) (Ev.ifp (by omega) (Ev.ifp (by omega) (Ev.ifn hk (Ev.ifp hk0 (Ev.ifp (by omega) (Ev.ifp hneg (Ev.ifp (by simp; omega) ?_))))))))
           rw [w64 (by omega) (by omega), ← ec]
           exact h2
       · refine .inr ⟨o, t, hI', ⟨(DMove.put hlen hk0 (by omega) hneg).trans hMv, fun j h1 h2 => ?_⟩, hm', fun r hr => ?_, fun r hr => ?_⟩
         · by_cases e : j = i
           · subst e
             have e2 : rd (out.set (rd nx j).toNat deep) (rd nx j) = deep := by rw [rd_set hk0 (by omega) hk0, if_pos rfl]
             exact ⟨by omega, (hMv.ext _ hk0 (by omega) (by rw [e2]; exact hd0)).trans e2⟩
           · exact hNx j (by omega) h2
         · refine Ev.step (fun k => by rw [Qat.l2]) (Ev.ifp (by omega) (Ev.ifp (by omega) (Ev.ifn (by omega) (Ev.ifn hk (Ev.ifp hk0 (Ev.ifp (by omega) (Ev.ifn (by omega) (Ev.step (fun k => by rw [Qat.j3]) (Ev.ifn (by simp) (Ev.ifp hk0 (Ev.ifp (by omega) (Ev.ifp hneg (Ev.ifp (by omega) ?_)))))))))))))
           rw [w64 (by omega) (by omega), ← ec]
           exact h1 r hr
         · refine Ev.step (fun k => by rw [Qak.l2]) (Ev.ifp (by omega) (Ev.ifp (by omega) (Ev.ifp (by omega) (Ev.ifn hk (Ev.ifp hk0 (Ev.ifp (by omega) (Ev.ifp hneg (Ev.ifp (by simp; omega) ?_))))))))
           rw [w64 (by omega) (by omega), ← ec]
           exact h2 r hr
     · by_cases heq : rd out (rd nx i) = deep
       · have ec : ((i + 1 : Nat) : Int) = (i : Int) + 1 := by omega
         have eb : (rd out (rd nx i) != deep) = false := by simp [heq]
         have hS : ∀ r, Ev (fun k => Qat.l2 k out todo deep nx ((i + 1 : Nat) : Int) l x y ops) r → Ev (fun k => Qat.l2 k out todo deep nx i l x y ops) r := fun r hr => by
          refine Ev.step (fun k => by rw [Qat.l2]) (Ev.ifp (by omega) (Ev.ifp (by omega) (Ev.ifn (by omega) (Ev.ifn hk (Ev.ifp hk0 (Ev.ifp (by omega) (Ev.ifp (by omega) ?_)))))))
          rw [eb]
          refine Ev.step (fun k => by rw [Qat.j3]) (Ev.ifn (by simp) (Ev.ifp hk0 (Ev.ifp (by omega) (Ev.ifn hneg ?_))))
          rw [w64 (by omega) (by omega), ← ec]
          exact hr
         have hM : ∀ r, Ev (fun k => Qak.l2 k out most (at_ :: todo) deep nx nx.length ((i + 1 : Nat) : Int) l x y ops) r → Ev (fun k => Qak.l2 k out most (at_ :: todo) deep nx nx.length i l x y ops) r := fun r hr => by
          refine Ev.step (fun k => by rw [Qak.l2]) (Ev.ifp (by omega) (Ev.ifp (by omega) (Ev.ifp (by omega) (Ev.ifn hk (Ev.ifp hk0 (Ev.ifp (by omega) (Ev.ifn hneg (Ev.ifp heq ?_))))))))
          rw [w64 (by omega) (by omega), ← ec]
          exact hr
         rcases ih (i + 1) out todo (by omega) (by omega) hI hm with ⟨o, h1, h2⟩ | ⟨o, t, hI', ⟨hMv, hNx⟩, hm', h1, h2⟩
         · exact .inl ⟨o, hS _ h1, hM _ h2⟩
         · refine .inr ⟨o, t, hI', ⟨hMv, fun j k1 k2 => ?_⟩, hm', fun r hr => hS r (h1 r hr), fun r hr => hM r (h2 r hr)⟩
           by_cases e : j = i
           · subst e
             exact ⟨by omega, (hMv.ext _ hk0 (by omega) (by omega)).trans heq⟩
           · exact hNx j (by omega) k2
       · refine .inl ⟨out, ?_, ?_⟩
         · have eb : (rd out (rd nx i) != deep) = true := by simp [heq]
           refine Ev.step (fun k => by rw [Qat.l2]) (Ev.ifp (by omega) (Ev.ifp (by omega) (Ev.ifn (by omega) (Ev.ifn hk (Ev.ifp hk0 (Ev.ifp (by omega) (Ev.ifp (by omega) ?_)))))))
           rw [eb]
           exact Ev.step (fun k => by rw [Qat.j3]) (Ev.ifp rfl (Ev.now _))
         · exact Ev.step (fun k => by rw [Qak.l2]) (Ev.ifp (by omega) (Ev.ifp (by omega) (Ev.ifp (by omega) (Ev.ifn hk (Ev.ifp hk0 (Ev.ifp (by omega) (Ev.ifn hneg (Ev.ifn heq (Ev.now _)))))))))
theorem deep_rounds (hl4 : l.length ≤ 4) (hl : ∀ m ∈ l, 0 ≤ m.f0 ∧ m.f0 ≤ 2) (hn : ops.length ≤ 14) (hj : ∀ i : Int, 0 ≤ i → i < ops.length → (Qah ops i).f0 = 7 ∨ (Qah ops i).f0 = 8 → 0 ≤ (Qah ops i).f1) :
 ∀ (m : Nat) (out todo : List Int) (most : Int), m ≤ 1000 → DInv l ops out todo most → DFl l ops out todo → todo.length + negs out ≤ m →
  DFail (fun k => Qat.l1 k out todo l x y ops) (fun k => Qak.l1 k out most todo l x y ops) ∨
  ∃ out' most', DInv l ops out' [] most' ∧ (DFl l ops out' [] ∧ ∀ i : Int, 0 ≤ i → i < ops.length → 0 ≤ rd out i → rd out' i = rd out i) ∧ Ev (fun k => Qat.l1 k out todo l x y ops) (out', true) ∧ Ev (fun k => Qak.l1 k out most todo l x y ops) (out', most', true) := by
 intro m
 induction m with
 | zero =>
   intro out todo most _ hI hF hm
   obtain rfl : todo = [] := List.eq_nil_of_length_eq_zero (by omega)
   exact .inr ⟨out, most, hI, ⟨hF, fun _ _ _ _ => rfl⟩, Ev.step (fun k => by rw [Qat.l1]) (Ev.ifn (by simp) (Ev.now _)), Ev.step (fun k => by rw [Qak.l1]) (Ev.ifn (by simp) (Ev.now _))⟩
 | succ m ih =>
   intro out todo most hm1 hI hF hm
   cases todo with
   | nil => exact .inr ⟨out, most, hI, ⟨hF, fun _ _ _ _ => rfl⟩, Ev.step (fun k => by rw [Qat.l1]) (Ev.ifn (by simp) (Ev.now _)), Ev.step (fun k => by rw [Qak.l1]) (Ev.ifn (by simp) (Ev.now _))⟩
   | cons at_ rest =>
     have hlen := hI.len
     obtain ⟨ha0, hal, har⟩ := hI.td at_ (List.mem_cons_self ..)
     have hrg := hI.rng at_ ha0 hal
     have e0 : rd (at_ :: rest) 0 = at_ := rfl
     have hlr : rest.length + 1 + negs out ≤ m + 1 := by simpa using hm
     have htr := takes_range hl (Qah ops at_).f0 (Qah ops at_).f1
     have hsz : ((at_ :: rest).length : Int) = (rest.length : Int) + 1 := by simp
     have hdeep := l2Deep_tells (by omega) hl (Qah ops at_).f0 (Qah ops at_).f1 (rd out at_) (by omega) (by omega)
     have hnext := l2Next_tells (Qah ops at_).f0 (Qah ops at_).f1 at_ ha0 (by omega)
     have hnxl : (nB (Qah ops at_).f0 (Qah ops at_).f1 at_).length ≤ 2 := by unfold nB; split; · simp
                                                                             · split; · simp
                                                                               · split <;> simp
     have hnx0 : ∀ i : Nat, i < (nB (Qah ops at_).f0 (Qah ops at_).f1 at_).length → 0 ≤ rd (nB (Qah ops at_).f0 (Qah ops at_).f1 at_) i := by
      intro i hi
      have hj' := hj at_ ha0 hal
      unfold rd
      rw [rdget hi]
      have hmem := List.getElem_mem hi
      revert hmem
      generalize (nB (Qah ops at_).f0 (Qah ops at_).f1 at_)[i] = z
      unfold nB
      split
      · simp
      · split
        · rename_i h7
          intro hmem
          obtain rfl := List.mem_singleton.mp hmem
          exact hj' (.inl h7)
        · split
          · rename_i h8
            intro hmem
            rcases List.mem_cons.mp hmem with rfl | hmem
            · omega
            · obtain rfl := List.mem_singleton.mp hmem
              exact hj' (.inr h8)
          · intro hmem
            obtain rfl := List.mem_singleton.mp hmem
            omega
     have hS : ∀ r, Ev (fun k => Qat.l2 k out rest (dAt l ops out at_) (nB (Qah ops at_).f0 (Qah ops at_).f1 at_) 0 l x y ops) r → Ev (fun k => Qat.l1 k out (at_ :: rest) l x y ops) r := fun r hr => by
      refine Ev.step (fun k => by rw [Qat.l1]) ?_
      refine Ev.ifp (by omega) (Ev.ifp (by omega) ?_)
      refine Ev.bindc rfl (Ev.ifp (by omega) ?_)
      refine Ev.bindc rfl (Ev.ifp (by simp; omega) ?_)
      rw [e0]
      refine Ev.ifp (by omega) (Ev.ifp (by omega) (Ev.ifp (by omega) ?_))
      refine Ev.bnd hdeep ?_
      refine Ev.bindc hnext ?_
      exact hr
     have hto := Qb5 l (Qah ops at_).f0 (Qah ops at_).f1
     by_cases hbad : dAt l ops out at_ < 0
     · refine .inl ?_
       have hSf : ∃ o, Ev (fun k => Qat.l2 k out rest (dAt l ops out at_) (nB (Qah ops at_).f0 (Qah ops at_).f1 at_) 0 l x y ops) (o, false) := by
        by_cases hz : (0 : Int) < (nB (Qah ops at_).f0 (Qah ops at_).f1 at_).length
        · exact ⟨out, Ev.step (fun k => by rw [Qat.l2]) (Ev.ifp hz (Ev.ifp (by omega) (Ev.ifp hbad (Ev.step (fun k => by rw [Qat.j3]) (Ev.ifp rfl (Ev.now _))))))⟩
        · exact ⟨out, Ev.step (fun k => by rw [Qat.l2]) (Ev.ifn hz (Ev.ifp hbad (Ev.now _)))⟩
       obtain ⟨o, ho⟩ := hSf
       refine ⟨o, hS _ ho, ?_⟩
       refine Ev.step (fun k => by rw [Qak.l1]) (Ev.ifp (by omega) (Ev.ifp (by omega) (Ev.ifp (by omega) (Ev.ifp (by omega) ?_))))
       rw [e0]
       refine Ev.bindc hto (Ev.ifp (by omega) ?_)
       unfold dAt dB at hbad
       by_cases hgt : (QbA l (Qah ops at_).f0 (Qah ops at_).f1).1 > rd out at_
       · exact Ev.ifp hgt (Ev.step (fun k => by rw [Qak.j3]) (Ev.ifp rfl (Ev.now _)))
       · rw [if_neg hgt] at hbad
         have h6 : rd out at_ - (QbA l (Qah ops at_).f0 (Qah ops at_).f1).1 + (QbA l (Qah ops at_).f0 (Qah ops at_).f1).2 > 6 := by
          by_cases h6 : rd out at_ - (QbA l (Qah ops at_).f0 (Qah ops at_).f1).1 + (QbA l (Qah ops at_).f0 (Qah ops at_).f1).2 > 6
          · exact h6
          · rw [if_neg h6] at hbad
            omega
         rw [w64 (x := rd out at_ - _) (by omega) (by omega), w64 (by omega) (by omega), decide_eq_true h6]
         exact Ev.ifn hgt (Ev.step (fun k => by rw [Qak.j3]) (Ev.ifp rfl (Ev.now _)))
     · have hgt : ¬ (QbA l (Qah ops at_).f0 (Qah ops at_).f1).1 > rd out at_ := fun h => hbad (by unfold dAt dB; rw [if_pos h]; omega)
       have h6 : ¬ rd out at_ - (QbA l (Qah ops at_).f0 (Qah ops at_).f1).1 + (QbA l (Qah ops at_).f0 (Qah ops at_).f1).2 > 6 := fun h => hbad (by unfold dAt dB; rw [if_neg hgt, if_pos h]; omega)
       have hdv : dAt l ops out at_ = rd out at_ - (QbA l (Qah ops at_).f0 (Qah ops at_).f1).1 + (QbA l (Qah ops at_).f0 (Qah ops at_).f1).2 := by unfold dAt dB; rw [if_neg hgt, if_neg h6]
       have hM : ∀ r, Ev (fun k => Qak.l2 k out (mx (mx most (rd out at_)) (dAt l ops out at_)) (at_ :: rest) (dAt l ops out at_) (nB (Qah ops at_).f0 (Qah ops at_).f1 at_) (nB (Qah ops at_).f0 (Qah ops at_).f1 at_).length 0 l x y ops) r → Ev (fun k => Qak.l1 k out most (at_ :: rest) l x y ops) r := fun r hr => by
        refine Ev.step (fun k => by rw [Qak.l1]) (Ev.ifp (by omega) (Ev.ifp (by omega) (Ev.ifp (by omega) (Ev.ifp (by omega) ?_))))
        rw [e0]
        refine Ev.bindc hto (Ev.ifp (by omega) (Ev.ifn hgt ?_))
        rw [w64 (x := rd out at_ - _) (by omega) (by omega), w64 (by omega) (by omega), decide_eq_false h6, ← hdv]
        refine Ev.step (fun k => by rw [Qak.j3]) (Ev.ifn (by simp) (Ev.ifp ha0 (Ev.ifp (by omega) ?_)))
        exact Ev.bindc (next_tells x y ops at_ ha0 hal (by omega)) hr
       have hI' : DInv l ops out rest (mx (mx most (rd out at_)) (dAt l ops out at_)) := by
        refine ⟨hlen, hI.rng, fun t ht => hI.td t (List.mem_cons_of_mem _ ht), fun i hi hil hr => ?_, ?_, ?_⟩
        · rcases hI.up i hi hil hr with h1 | ⟨h1, h2, h3⟩
          · rcases List.mem_cons.mp h1 with rfl | h1
            · refine .inr ⟨by omega, ?_, ?_⟩ <;> (unfold mx; split <;> (try split at * <;> omega) <;> omega)
            · exact .inl h1
          · refine .inr ⟨h1, ?_, ?_⟩ <;> (unfold mx; split <;> (try split at * <;> omega) <;> omega)
        · have := hI.dn.1
          unfold mx
          split <;> (try split at * <;> omega) <;> omega
        · have hc : mx (mx most (rd out at_)) (dAt l ops out at_) = most ∨ mx (mx most (rd out at_)) (dAt l ops out at_) = rd out at_ ∨ mx (mx most (rd out at_)) (dAt l ops out at_) = dAt l ops out at_ := by
           unfold mx
           split <;> split <;> simp
          rcases hc with h | h | h
          · rw [h]
            exact hI.dn.2
          · exact .inr ⟨at_, ha0, hal, har, .inl h⟩
          · exact .inr ⟨at_, ha0, hal, har, .inr h⟩
       rcases deep_inner l x y ops _ (dAt l ops out at_) (by omega) (by omega) at_ _ hnxl hnx0 m (by omega) _ 0 out rest rfl (by omega) hI' (by omega) with ⟨o, h1, h2⟩ | ⟨o, t, hI2, ⟨hMv, hNx⟩, hm2, h1, h2⟩
       · exact .inl ⟨o, hS _ h1, hM _ h2⟩
       · have eqd : ∀ i : Int, 0 ≤ i → i < ops.length → 0 ≤ rd out i → dAt l ops o i = dAt l ops out i := fun i h0 h1 h2 => by
          unfold dAt
          rw [hMv.ext i h0 h1 h2]
         have hF2 : DFl l ops o t := by
          intro i hi hil hr
          by_cases hro : 0 ≤ rd out i
          · rcases hF i hi hil hro with hin | ⟨hd, hfl⟩
            · rcases List.mem_cons.mp hin with rfl | hin
              · refine .inr ⟨by rw [eqd i hi hil hro]; omega, fun k hk => ?_⟩
                obtain ⟨j, hj, rfl⟩ := List.mem_iff_getElem.mp hk
                have hz := hNx j (Nat.zero_le _) hj
                have hz0 := hnx0 j hj
                have er : rd (nB (Qah ops i).f0 (Qah ops i).f1 i) j = (nB (Qah ops i).f0 (Qah ops i).f1 i)[j] := by
                 unfold rd
                 rw [rdget hj]
                rw [er] at hz hz0
                exact ⟨hz0, hz.1, by rw [hz.2, eqd i hi hil hro]⟩
              · exact .inl (hMv.sub i hin)
            · refine .inr ⟨by rw [eqd i hi hil hro]; exact hd, fun k hk => ?_⟩
              obtain ⟨a1, a2, a3⟩ := hfl k hk
              exact ⟨a1, a2, by rw [hMv.ext k a1 a2 (by omega), a3, eqd i hi hil hro]⟩
          · exact .inl (hMv.new i hi hil (by omega) hr)
         rcases ih o t _ (by omega) hI2 hF2 hm2 with ⟨o2, g1, g2⟩ | ⟨o2, m2, hI3, ⟨hF3, hE3⟩, g1, g2⟩
         · exact .inl ⟨o2, hS _ (h1 _ g1), hM _ (h2 _ g2)⟩
         · exact .inr ⟨o2, m2, hI3, ⟨hF3, fun i h0 h1 h2 => (hE3 i h0 h1 (by rw [hMv.ext i h0 h1 h2]; exact h2)).trans (hMv.ext i h0 h1 h2)⟩, hS _ (h1 _ g1), hM _ (h2 _ g2)⟩
end
end Go.Proofs.Ytabcijheemjplaa.G
namespace Go.Proofs.Ytabcijheemjplaa.G
set_option linter.unusedSimpArgs false
open Go.RowKit Go.Proofs.YtabcijheemjplaaW.PrintWords Go.Proofs.YtabcijheemjplaaW.PrintLast Go.Proofs.YtabcijheemjplaaW.PrintMore
theorem in_tells (a b c : Int) : Qcv.f a b c = some (decide (b ≤ a ∧ a ≤ c)) := Qbu a b c
theorem spec_fill (l : List Qae) (x y : Int) (ops : List Qac) (hn : ops.length ≤ 1048576) (r : List Int × Bool) : ∀ (d i : Nat), ops.length - i = d → i ≤ ops.length →
 Ev (fun k => Qat.l0 k (List.replicate ops.length (-1)) ops.length l x y ops) r → Ev (fun k => Qat.l0 k (List.replicate i (-1)) i l x y ops) r := by
 intro d
 induction d with
 | zero =>
   intro i hd hi h
   obtain rfl : i = ops.length := by omega
   exact h
 | succ d ih =>
   intro i hd hi h
   refine Ev.step (fun k => by rw [Qat.l0]) (Ev.ifp (by omega) (Ev.ifp (by simp; omega) ?_))
   rw [w64 (by omega) (by omega), ← List.replicate_succ']
   exact ih (i + 1) (by omega) (by omega) h
theorem impl_fill (l : List Qae) (x y : Int) (ops : List Qac) (hn : ops.length ≤ 1048576) (r : List Int × Int × Bool)
 (h : Ev (fun k => Qak.l0 k (List.replicate ops.length (-1)) ops.length ops.length l x y ops) r) : ∀ (d i : Nat), ops.length - i = d → i ≤ ops.length →
 Ev (fun k => Qak.l0 k (List.replicate i (-1) ++ List.replicate (ops.length - i) 0) ops.length i l x y ops) r := by
 intro d
 induction d with
 | zero =>
   intro i hd hi
   obtain rfl : i = ops.length := by omega
   rw [Nat.sub_self, List.replicate_zero, List.append_nil]
   exact h
 | succ d ih =>
   intro i hd hi
   refine Ev.step (fun k => by rw [Qak.l0]) (Ev.ifp (by omega) (Ev.ifp (by omega) (Ev.ifp (by simp; omega) ?_)))
   rw [w64 (by omega) (by omega)]
   have e : (List.replicate i (-1 : Int) ++ List.replicate (ops.length - i) 0).set (i : Int).toNat (-1) = List.replicate (i + 1) (-1) ++ List.replicate (ops.length - (i + 1)) 0 := by
    have e1 : ops.length - i = (ops.length - (i + 1)) + 1 := by omega
    rw [e1, List.replicate_succ, Int.toNat_natCast, List.set_append_right _ _ (by simp), List.length_replicate, Nat.sub_self, List.set_cons_zero, List.replicate_succ', List.append_assoc]
    rfl
   rw [e]
   exact ih (i + 1) (by omega) (by omega)
theorem rd_replicate (n : Nat) (v i : Int) (h0 : 0 ≤ i) (h1 : i < n) : rd (List.replicate n v) i = v := by
 obtain ⟨i, rfl⟩ := Int.eq_ofNat_of_zero_le h0
 unfold rd
 rw [rdget (by simp; omega), List.getElem_replicate]
theorem deep_start (l : List Qae) (ops : List Qac) (hz : 0 < ops.length) : DInv l ops ((List.replicate ops.length (-1)).set (0 : Int).toNat 0) [0] 0 := by
 have hrd : ∀ i : Int, 0 ≤ i → i < ops.length → rd ((List.replicate ops.length (-1)).set (0 : Int).toNat 0) i = if i = 0 then 0 else -1 := fun i hi hil => by
  rw [rd_set (by omega) (by simp; omega) hi, rd_replicate _ _ _ hi hil]
 refine ⟨by simp, fun i hi hil => ?_, fun t ht => ?_, fun i hi hil hr => ?_, by omega, .inl rfl⟩
 · rw [hrd i hi hil]
   split <;> omega
 · obtain rfl := List.mem_singleton.mp ht
   rw [hrd 0 (by omega) (by omega)]
   simp
   omega
 · rw [hrd i hi hil] at hr
   split at hr
   · rename_i e
     exact .inl (by simp [e])
   · omega
theorem deep_start_fl (l : List Qae) (ops : List Qac) (hz : 0 < ops.length) : DFl l ops ((List.replicate ops.length (-1)).set (0 : Int).toNat 0) [0] := by
 intro i hi hil hr
 rw [rd_set (by omega) (by simp; omega) hi, rd_replicate _ _ _ hi hil] at hr
 split at hr
 · next e => exact .inl (by simp [e])
 · omega
theorem deepAt_both (l : List Qae) (hf : fewI l) (a : Int) :
 (Ev (fun k => QaF.f k l a) ([], false) ∧ Ev (fun k => Qak.f k l a) ([], 0, false)) ∨
 ∃ out most, QbB l = true ∧ (0 ≤ a ∧ a < l.length) ∧ DInv l (Qaa l a).f2 out [] most ∧ (DFl l (Qaa l a).f2 out [] ∧ 0 < (Qaa l a).f2.length ∧ rd out 0 = 0) ∧ Ev (fun k => QaF.f k l a) (out, true) ∧ Ev (fun k => Qak.f k l a) (out, most, true) := by
 have hl1 := hf.1
 have hw : wrap64 ((l.length : Int) - 1) = (l.length : Int) - 1 := w64 (by omega) (by omega)
 cases hok : QbB l with
 | false =>
   refine .inl ⟨?_, ?_⟩
   · unfold QaF.f
     exact Ev.bnd (hok ▸ Qb9 l hf) (Ev.ifn (by simp) (Ev.step (fun k => by rw [QaF.j0]) (Ev.ifp rfl (Ev.now _))))
   · unfold Qak.f Qbm.f
     rw [hok]
     exact Ev.bindc rfl (Ev.ifn (by simp) (Ev.step (fun k => by rw [Qak.j0]) (Ev.ifp rfl (Ev.now _))))
 | true =>
   obtain ⟨f1, f4, -, fm⟩ := progOk_facts hok
   by_cases ha : 0 ≤ a ∧ a ≤ (l.length : Int) - 1
   · obtain ⟨n, rfl⟩ := Int.eq_ofNat_of_zero_le ha.1
     have hm : Qaa l (n : Int) ∈ l := by rw [Qbl (by omega)]; exact List.getElem_mem _
     obtain ⟨⟨-, -, -, -, h14⟩, hop⟩ := fm _ hm
     have hS0 : ∀ r, Ev (fun k => (Qat.f k l (Qaa l n).f0 (Qaa l n).f1 (Qaa l n).f2).bind fun bt108 => (if bt108.2 = true then (some (bt108.1, true)) else (some ((([] : List Int)), false)))) r → Ev (fun k => QaF.f k l n) r := fun r hr => by
      unfold QaF.f
      refine Ev.bnd (hok ▸ Qb9 l hf) (Ev.ifp rfl ?_)
      rw [hw]
      refine Ev.bindc (Qbu _ _ _) (Ev.step (fun k => by rw [QaF.j0]) (Ev.ifn (by simp only [decide_eq_true ha]; simp) (Ev.ifp (by omega) (Ev.ifp (by omega) ?_))))
      exact hr
     have hM0 : ∀ r, Ev (fun k => Qak.j0 k n ((((Qaa l n).f2).length : Int) == 0) l) r → Ev (fun k => Qak.f k l n) r := fun r hr => by
      unfold Qak.f Qbm.f
      rw [hok, hw]
      exact Ev.bindc rfl (Ev.ifp rfl (Ev.bindc (in_tells _ _ _) (Ev.ifp (decide_eq_true ha) (Ev.ifp (by omega) (Ev.ifp (by omega) hr)))))
     generalize hops : (Qaa l n).f2 = ops at *
     have hS1 : ∀ r, Ev (fun k => Qat.l0 k (List.replicate ops.length (-1)) ops.length l (Qaa l n).f0 (Qaa l n).f1 ops) r → Ev (fun k => Qat.f k l (Qaa l n).f0 (Qaa l n).f1 ops) r := fun r hr => by
      unfold Qat.f
      exact spec_fill l _ _ ops (by omega) r _ 0 rfl (by omega) hr
     by_cases hz : ops.length = 0
     · refine .inl ⟨hS0 _ (Ev.bnd (hS1 _ (Ev.step (fun k => by rw [Qat.l0]) (Ev.ifn (by omega) (Ev.ifp (by omega) (Ev.now _))))) (Ev.ifn (by simp) (Ev.now _))), hM0 _ ?_⟩
       exact Ev.step (fun k => by rw [Qak.j0]) (Ev.ifp (by simp [hz]) (Ev.now _))
     · have hM1 : ∀ r, Ev (fun k => Qak.l1 k ((List.replicate ops.length (-1)).set (0 : Int).toNat 0) 0 [0] l (Qaa l n).f0 (Qaa l n).f1 ops) r → Ev (fun k => Qak.f k l n) r := fun r hr => by
        refine hM0 _ (Ev.step (fun k => by rw [Qak.j0]) ?_)
        rw [hops]
        refine Ev.ifn (by simp only [beq_iff_eq]; omega) (Ev.ifp (by omega) (Ev.ifp (by omega) (Ev.ifp (by omega) (Ev.ifp (by omega) ?_))))
        refine Ev.bindc rfl ?_
        rw [Int.toNat_natCast, List.length_replicate]
        have := impl_fill l (Qaa l n).f0 (Qaa l n).f1 ops (by omega) r (Ev.step (fun k => by rw [Qak.l0]) (Ev.ifn (by omega) (Ev.ifp (by simp; omega) hr))) _ 0 rfl (by omega)
        exact this
       have hSr : ∀ r, Ev (fun k => Qat.l1 k ((List.replicate ops.length (-1)).set (0 : Int).toNat 0) [0] l (Qaa l n).f0 (Qaa l n).f1 ops) r → Ev (fun k => Qat.f k l (Qaa l n).f0 (Qaa l n).f1 ops) r := fun r hr =>
        hS1 _ (Ev.step (fun k => by rw [Qat.l0]) (Ev.ifn (by omega) (Ev.ifn (by omega) (Ev.ifp (by simp; omega) hr))))
       have hng : negs ((List.replicate ops.length (-1 : Int)).set (0 : Int).toNat 0) ≤ 14 := by
        unfold negs
        refine Nat.le_trans List.countP_le_length ?_
        simp
        exact h14
       rcases deep_rounds l (Qaa l n).f0 (Qaa l n).f1 ops f4 (fun m hm => ⟨(fm m hm).1.1, (fm m hm).1.2.1⟩) h14 (fun i hi hil hk => by
        obtain ⟨i, rfl⟩ := Int.eq_ofNat_of_zero_le hi
        rw [Qca (by omega)] at hk ⊢
        exact ((opOk_jump (hop _ (List.getElem_mem _))).2 hk).1) 15 _ [0] 0 (by omega) (deep_start l ops (by omega)) (deep_start_fl l ops (by omega)) (by simp only [List.length_cons, List.length_nil]; omega) with ⟨o, h1, h2⟩ | ⟨o, m2, hI, ⟨hF, hE⟩, h1, h2⟩
       · exact .inl ⟨hS0 _ (Ev.bnd (hSr _ h1) (Ev.ifn (by simp) (Ev.now _))), hM1 _ h2⟩
       · have hz0 : rd ((List.replicate ops.length (-1 : Int)).set (0 : Int).toNat 0) 0 = 0 := by rw [rd_set (by omega) (by simp; omega) (by omega), if_pos rfl]
         exact .inr ⟨o, m2, rfl, ⟨ha.1, by have := ha.2; omega⟩, hI, ⟨hF, by omega, by rw [hE 0 (by omega) (by omega) (by rw [hz0]; omega), hz0]⟩, hS0 _ (Ev.bnd (hSr _ h1) (Ev.ifp rfl (Ev.now _))), hM1 _ h2⟩
   · refine .inl ⟨?_, ?_⟩
     · unfold QaF.f
       refine Ev.bnd (hok ▸ Qb9 l hf) (Ev.ifp rfl ?_)
       rw [hw]
       exact Ev.bindc (Qbu _ _ _) (Ev.step (fun k => by rw [QaF.j0]) (Ev.ifp (by rw [decide_eq_false ha]; rfl) (Ev.now _)))
     · unfold Qak.f Qbm.f
       rw [hok, hw]
       exact Ev.bindc rfl (Ev.ifp rfl (Ev.bindc (in_tells _ _ _) (Ev.ifn (by simpa using ha) (Ev.step (fun k => by rw [Qak.j0]) (Ev.ifp rfl (Ev.now _))))))
end Go.Proofs.Ytabcijheemjplaa.G
namespace Go.Proofs.Ytabcijheemjplaa.G
open Go.RowKit Go.Proofs.YtabcijheemjplaaW.PrintWords Go.Proofs.YtabcijheemjplaaW.PrintLast Go.Proofs.YtabcijheemjplaaW.PrintMore
attribute [local go_sem] QaQ QaR Qa3 Qa4 QaJ QaK QaS QaT
set_option linter.unusedVariables false
set_option linter.unusedSimpArgs false
theorem specDeepAt_any (A : Option Addr) (c : Nat) (l : List Qae) (k : Int) (out : List Int) (b : Bool) (w : World) (hr : Kd.C QaD w A l.length l) (hc : l.length ≤ c) (h : Ev (fun n => QaF.f n l k) (out, b)) :
 Calls Try.prog 16 #[.agg #[.slice A l.length c], .int .i64 k] w fun e w' => ∃ A1 c1, e = .returned (.tuple #[.slice A1 out.length c1, .bool b]) ∧ out.length ≤ c1 ∧ Kd.C (Kd.int .i64) w' A1 out.length out ∧ Below w.heap.size w w' := by
 obtain ⟨n, hn⟩ := h.rounds
 refine (QaF.calls n A c l k out b w hr hc hn).mono ?_
 rintro e w' ⟨v, rfl, hR, hB⟩
 obtain ⟨A1, c1, rfl, h1, h2⟩ := Kd.R_reads hR
 exact ⟨A1, c1, rfl, h1, h2, hB⟩
theorem Qcn (A : Option Addr) (c : Nat) (l : List Qae) (k : Int) (out : List Int) (most : Int) (b : Bool) (w : World) (hr : Kd.C QaD w A l.length l) (hc : l.length ≤ c) (h : Ev (fun n => Qak.f n l k) (out, most, b)) :
 Calls Try.prog 17 #[.agg #[.slice A l.length c], .int .i64 k] w fun e w' => ∃ A1 c1, e = .returned (.tuple #[.slice A1 out.length c1, .bool b]) ∧ out.length ≤ c1 ∧ Kd.C (Kd.int .i64) w' A1 out.length out ∧ Below w.heap.size w w' := by
 obtain ⟨n, hn⟩ := (show Ev (fun n => QbN.f n l k) (out, b) from Ev.bnd h (Ev.now _)).rounds
 refine (QbN.calls n A c l k out b w hr hc hn).mono ?_
 rintro e w' ⟨v, rfl, hR, hB⟩
 obtain ⟨A1, c1, rfl, h1, h2⟩ := Kd.R_reads hR
 exact ⟨A1, c1, rfl, h1, h2, hB⟩
end Go.Proofs.Ytabcijheemjplaa.G
namespace Go.Proofs.Ytabcijheemjplaa.G
open Go.RowKit Go.Proofs.YtabcijheemjplaaW.PrintWords Go.Proofs.YtabcijheemjplaaW.PrintLast Go.Proofs.YtabcijheemjplaaW.PrintMore
attribute [local go_sem] QaQ QaR Qa3 Qa4 QaJ QaK QaS QaT
set_option linter.unusedVariables false
set_option linter.unusedSimpArgs false
theorem lmInts_self (l : List Int) (hl : l.length ≤ 1048576) : Ev (fun k => Qa2.f k l l) true := by
 unfold Qa2.f
 refine Ev.ifp rfl ?_
 refine ev_all (fun k i => Qa2.l0 k l l i) l.length true (fun i hi r hr => ?_) (Ev.step (fun k => by rw [Qa2.l0]) (Ev.ifn (by omega) (Ev.now _)))
 refine Ev.step (fun k => by rw [Qa2.l0]) (Ev.ifp (by omega) (Ev.ifp (by omega) (Ev.ifp (by omega) (Ev.ifp rfl ?_))))
 rw [w64 (by omega) (by omega)]
 exact hr
theorem lmInts_n (A B : Option Addr) (c d n m : Nat) (l : List Int) (hn : l.length = n) (hm : l.length = m) (hl : l.length ≤ 1048576) (w : World) (hr : Kd.C (Kd.int .i64) w A l.length l) (hc : l.length ≤ c) (hr1 : Kd.C (Kd.int .i64) w B l.length l) (hc1 : l.length ≤ d) :
 Calls Try.prog 18 #[.slice A n c, .slice B m d] w fun e w' => e = .returned (.bool true) ∧ Below w.heap.size w w' := by
 subst hn
 subst hm
 obtain ⟨n, hn⟩ := (lmInts_self l hl).rounds
 exact (Qa2.calls n A c l B d l true w hr hc hr1 hc1 hn).mono fun e w' ⟨he, m, hb⟩ => ⟨he, hb ▸ Qar (Below.refl _ _) m⟩
end Go.Proofs.Ytabcijheemjplaa.G
