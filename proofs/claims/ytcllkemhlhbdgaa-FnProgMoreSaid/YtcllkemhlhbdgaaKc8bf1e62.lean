import Derived.Test.YtcllkemhlhbdgaaK8eabcbd7
import Derived.Test.YtcllkemhlhbdgaaKc764db87
import Derived.Test.YtcllkemhlhbdgaaK73536a53
import Derived.Test.YtcllkemhlhbdgaaK119d529c
import Derived.Test.YtcllkemhlhbdgaaK24176022
import Derived.Laws.EntriesVeiled
import Derived.Test.YtcllkemhlhbdgaaKf8014d07
import Derived.Test.YtcllkemhlhbdgaaK48a4494f
import Derived.Test.YtcllkemhlhbdgaaK34255039
import Derived.Shelf.Abstract
namespace Go.Proofs.Ytcllkemhlhbdgaa.G
set_option linter.unusedSimpArgs false
open Go.RowKit Go.Proofs.YtcllkemhlhbdgaaW.PrintWords Go.Proofs.YtcllkemhlhbdgaaW.PrintLast
theorem l6In_tells (a b c : Int) : spec_l6In.f a b c = some (decide (b ≤ a ∧ a ≤ c)) := by
  unfold spec_l6In.f
  by_cases h : b ≤ a
  · rw [if_pos h]
    simp [h]
  · rw [if_neg h]
    simp [h]
theorem kinds18 {n : Nat} (h1 : 1 ≤ n) (h2 : n ≤ 18) : n = 1 ∨ n = 2 ∨ n = 3 ∨ n = 4 ∨ n = 5 ∨ n = 6 ∨ n = 7 ∨ n = 8 ∨ n = 9 ∨ n = 10 ∨ n = 11 ∨ n = 12 ∨ n = 13 ∨ n = 14 ∨ n = 15 ∨ n = 16 ∨ n = 17 ∨ n = 18 := by omega
theorem l1Op_tells (l : List S_impl_Method) (x y : Int) (ops : List S_impl_Op) (k a : Int) (hl : l.length ≤ 1048576) (ho : ops.length ≤ 1048576) (hy0 : 0 ≤ y) (hy1 : y ≤ 4) :
    Ev (fun n => spec_l1Op.f n l x y ops k a) (opOkB l.length y ops.length k a) := by
  refine Ev.of (fun n => spec_l1Op.mono _ _ _ _ _ _ n) (k := 4) ?_
  have hw1 : wrap64 (y - 1) = y - 1 := w64 (by omega) (by omega)
  have hw2 : wrap64 ((ops.length : Int) - 1) = (ops.length : Int) - 1 := w64 (by omega) (by omega)
  have hw3 : wrap64 ((l.length : Int) - 1) = (l.length : Int) - 1 := w64 (by omega) (by omega)
  unfold opOkB
  by_cases hk : 1 ≤ k ∧ k ≤ 18
  · rw [if_pos hk]
    obtain ⟨n, rfl⟩ := Int.eq_ofNat_of_zero_le (show 0 ≤ k by omega)
    rcases kinds18 (n := n) (by omega) (by omega) with rfl | rfl | rfl | rfl | rfl | rfl | rfl | rfl | rfl | rfl | rfl | rfl | rfl | rfl | rfl | rfl | rfl | rfl <;>
      simp [spec_l1Op.f, spec_l1Op.j0, spec_l1Op.j1, spec_l1Op.j2, l6In_tells, hw1, hw2, hw3, mG, mMost] <;> rfl
  · rw [if_neg hk]
    have e1 : ¬ k = 1 := by omega
    have e2 : ¬ k = 2 := by omega
    have e3 : ¬ k = 3 := by omega
    have e7 : ¬ k = 7 := by omega
    have e8 : ¬ k = 8 := by omega
    have e9 : ¬ k = 9 := by omega
    have e13 : ¬ k = 13 := by omega
    have e14 : ¬ k = 14 := by omega
    simp [spec_l1Op.f, spec_l1Op.j0, spec_l1Op.j1, spec_l1Op.j2, l6In_tells, hw1, hw2, hw3, e1, e2, e3, e7, e8, e9, e13, e14, hk]
theorem l1Method_tells (l : List S_impl_Method) (m : S_impl_Method) (hl : l.length ≤ 1048576) (hm : m.f2.length ≤ 1048576) : Ev (fun n => spec_l1Method.f n l m.f0 m.f1 m.f2) (!methodBadB l.length m) := by
  unfold spec_l1Method.f methodBadB
  by_cases c1 : 0 ≤ m.f0 ∧ m.f0 ≤ 2
  · refine Ev.bindc (l6In_tells _ _ _) (Ev.ifp (decide_eq_true c1) ?_)
    by_cases c2 : m.f0 ≤ m.f1 ∧ m.f1 ≤ 4
    · refine Ev.bindc (l6In_tells _ _ _) (Ev.ifp (decide_eq_true c2) ?_)
      by_cases c3 : m.f2.length ≤ 14
      · rw [if_pos ⟨c1.1, c1.2, c2.1, c2.2, c3⟩]
        refine Ev.step (fun k => by rw [spec_l1Method.j0]) (Ev.ifn (by simp; omega) ?_)
        obtain ⟨r, hp, hr⟩ := ev_for0 (σ := Unit) (fun k i _ => spec_l1Method.l0 k i l m.f0 m.f1 m.f2) m.f2.length (fun i _ => ∀ (j : Nat) (hj : j < m.f2.length), j < i → opOkB l.length m.f1 m.f2.length m.f2[j].f0 m.f2[j].f1 = true)
          (fun r => r = !(m.f2.any (fun op => !opOkB l.length m.f1 m.f2.length op.f0 op.f1)))
          (fun i _ hi hs => by
            have hop := l1Op_tells l m.f0 m.f1 m.f2 m.f2[i].f0 m.f2[i].f1 hl hm (by omega) (by omega)
            cases ho : opOkB l.length m.f1 m.f2.length m.f2[i].f0 m.f2[i].f1 with
            | false =>
              refine .inl ⟨false, ?_, ?_⟩
              · have : m.f2.any (fun op => !opOkB l.length m.f1 m.f2.length op.f0 op.f1) = true := List.any_eq_true.mpr ⟨m.f2[i], List.getElem_mem hi, by rw [ho]; rfl⟩
                rw [this]
                rfl
              · refine Ev.step (fun k => by rw [spec_l1Method.l0]) (Ev.ifp (by omega) (Ev.ifp (by omega) ?_))
                rw [rd_impl_Op_at hi]
                rw [ho] at hop
                exact Ev.bnd hop (Ev.ifn (by simp) (Ev.now _))
            | true =>
              refine .inr ⟨(), fun j hj hji => ?_, fun r hr => ?_⟩
              · by_cases e : j = i
                · subst e; exact ho
                · exact hs j hj (by omega)
              · refine Ev.step (fun k => by rw [spec_l1Method.l0]) (Ev.ifp (by omega) (Ev.ifp (by omega) ?_))
                rw [rd_impl_Op_at hi]
                rw [ho] at hop
                refine Ev.bnd hop (Ev.ifp rfl ?_)
                rw [w64 (by omega) (by omega)]
                exact hr)
          (fun _ hs => ⟨true, by
            have : m.f2.any (fun op => !opOkB l.length m.f1 m.f2.length op.f0 op.f1) = false := by
              rw [List.any_eq_false]
              intro op hop
              obtain ⟨j, hj, rfl⟩ := List.mem_iff_getElem.mp hop
              simp [hs j hj hj]
            rw [this]
            rfl, Ev.step (fun k => by rw [spec_l1Method.l0]) (Ev.ifn (by omega) (Ev.now _))⟩)
          () (fun j hj h => absurd h (Nat.not_lt_zero _))
        rw [← hp]
        exact hr
      · rw [if_neg (fun h => c3 h.2.2.2.2)]
        refine Ev.step (fun k => by rw [spec_l1Method.j0]) ?_
        exact Ev.ifp (by simp; omega) (Ev.now _)
    · rw [if_neg (fun h => c2 ⟨h.2.2.1, h.2.2.2.1⟩)]
      refine Ev.bindc (l6In_tells _ _ _) (Ev.ifn (by simp only [decide_eq_true_eq]; exact c2) ?_)
      refine Ev.step (fun k => by rw [spec_l1Method.j0]) ?_
      exact Ev.ifp rfl (Ev.now _)
  · rw [if_neg (fun h => c1 ⟨h.1, h.2.1⟩)]
    refine Ev.bindc (l6In_tells _ _ _) (Ev.ifn (by simp only [decide_eq_true_eq]; exact c1) ?_)
    refine Ev.step (fun k => by rw [spec_l1Method.j0]) ?_
    exact Ev.ifp rfl (Ev.now _)
theorem specProgOk_tells (l : List S_impl_Method) (hl : fewI l) : Ev (fun n => spec_ProgOk.f n l) (progOkB l) := by
  unfold spec_ProgOk.f progOkB
  have hl1 := hl.1
  by_cases c1 : 1 ≤ l.length ∧ l.length ≤ 4
  · refine Ev.bindc (l6In_tells _ _ _) (Ev.ifp (decide_eq_true (by omega)) (Ev.ifp (by omega) ?_))
    by_cases c2 : (rd_impl_Method l 0).f0 = 0
    · rw [if_pos ⟨c1.1, c1.2, c2⟩]
      refine Ev.step (fun k => by rw [spec_ProgOk.j0]) (Ev.ifn (by simp [c2]) ?_)
      obtain ⟨r, hp, hr⟩ := ev_for0 (σ := Unit) (fun k i _ => spec_ProgOk.l0 k i l) l.length (fun i _ => ∀ (j : Nat) (hj : j < l.length), j < i → methodBadB l.length l[j] = false)
        (fun r => r = !(l.any (methodBadB l.length)))
        (fun i _ hi hs => by
          have hm := l1Method_tells l l[i] hl1 (hl.2 _ (List.getElem_mem hi))
          cases ho : methodBadB l.length l[i] with
          | true =>
            refine .inl ⟨false, ?_, ?_⟩
            · have : l.any (methodBadB l.length) = true := List.any_eq_true.mpr ⟨l[i], List.getElem_mem hi, ho⟩
              rw [this]
              rfl
            · refine Ev.step (fun k => by rw [spec_ProgOk.l0]) (Ev.ifp (by omega) (Ev.ifp (by omega) ?_))
              rw [rd_impl_Method_at hi]
              rw [ho] at hm
              exact Ev.bnd hm (Ev.ifn (by simp) (Ev.now _))
          | false =>
            refine .inr ⟨(), fun j hj hji => ?_, fun r hr => ?_⟩
            · by_cases e : j = i
              · subst e; exact ho
              · exact hs j hj (by omega)
            · refine Ev.step (fun k => by rw [spec_ProgOk.l0]) (Ev.ifp (by omega) (Ev.ifp (by omega) ?_))
              rw [rd_impl_Method_at hi]
              rw [ho] at hm
              refine Ev.bnd hm (Ev.ifp rfl ?_)
              rw [w64 (by omega) (by omega)]
              exact hr)
        (fun _ hs => ⟨true, by
          have : l.any (methodBadB l.length) = false := by
            rw [List.any_eq_false]
            intro op hop
            obtain ⟨j, hj, rfl⟩ := List.mem_iff_getElem.mp hop
            simp [hs j hj hj]
          rw [this]
          rfl, Ev.step (fun k => by rw [spec_ProgOk.l0]) (Ev.ifn (by omega) (Ev.now _))⟩)
        () (fun j hj h => absurd h (Nat.not_lt_zero _))
      rw [← hp]
      exact hr
    · rw [if_neg (fun h => c2 h.2.2)]
      refine Ev.step (fun k => by rw [spec_ProgOk.j0]) ?_
      exact Ev.ifp (by simp [c2]) (Ev.now _)
  · rw [if_neg (fun h => c1 ⟨h.1, h.2.1⟩)]
    refine Ev.bindc (l6In_tells _ _ _) (Ev.ifn (by simp only [decide_eq_true_eq]; omega) ?_)
    refine Ev.step (fun k => by rw [spec_ProgOk.j0]) ?_
    exact Ev.ifp rfl (Ev.now _)
end Go.Proofs.Ytcllkemhlhbdgaa.G
namespace Go.Proofs.Ytcllkemhlhbdgaa.G
open Go.RowKit Go.Proofs.YtcllkemhlhbdgaaW.PrintWords Go.Proofs.YtcllkemhlhbdgaaW.PrintLast
theorem pick_ev {s : List Int} {p : Int} (hc : CodeOk s p) (hp : p ≤ 1000000000) (n : Int) : ∃ r, Ev (fun k => spec_l6Rd_pick.f k s p n) (r, p + 1) ∧ 0 ≤ r ∧ (1 ≤ n → r < n) := by
  obtain ⟨r, h1, h2, h3⟩ := pick_tells hc hp n
  exact ⟨r, ⟨1, fun k hk => by obtain ⟨m, rfl⟩ : ∃ m, k = m + 1 := ⟨k - 1, by omega⟩; exact h1 m⟩, h2, h3⟩
theorem CodeOk.to {s : List Int} {p q : Int} (h : CodeOk s p) (hq : p ≤ q) : CodeOk s q := ⟨h.1, h.2.1, by have := h.2.2; omega⟩
def OpFine (n : Nat) (temps : Int) (op : S_impl_Op) : Prop := ∀ no, opOkB n temps no op.f0 op.f1 = true
theorem ops_go {L : List Int} {acc r : List S_impl_Op} {i : Nat} (h : i + 1 < L.length) (ha : acc.length ≤ 100) (hL : L.length ≤ 100) (k : Ev (fun k => spec_l71Ops.l0 k L (acc ++ [⟨rd L i, rd L ((i : Int) + 1)⟩]) ((i + 2 : Nat) : Int)) r) : Ev (fun k => spec_l71Ops.l0 k L acc (i : Int)) r := by
  refine Ev.step (fun k => by rw [spec_l71Ops.l0]) ?_
  rw [w64 (x := (i : Int) + 1) (by omega) (by omega), w64 (x := (i : Int) + 2) (by omega) (by omega)]
  exact Ev.ifp (by omega) (Ev.ifp (by omega) (Ev.ifp (by omega) (Ev.ifp (by omega) (Ev.ifp (by omega) k))))
theorem ops_end {L : List Int} {acc : List S_impl_Op} {i : Nat} (h : L.length ≤ i + 1) (hL : i ≤ 100) : Ev (fun k => spec_l71Ops.l0 k L acc (i : Int)) acc := by
  refine Ev.step (fun k => by rw [spec_l71Ops.l0]) ?_
  rw [w64 (x := (i : Int) + 1) (by omega) (by omega)]
  exact Ev.ifn (by omega) (Ev.now _)
theorem ops2 (a b : Int) : Ev (fun k => spec_l71Ops.f k [a, b]) [⟨a, b⟩] :=
  ops_go (i := 0) (acc := []) (by simp) (by simp) (by simp) (ops_end (by simp) (by simp))
theorem ops4 (a b c d : Int) : Ev (fun k => spec_l71Ops.f k [a, b, c, d]) [⟨a, b⟩, ⟨c, d⟩] :=
  ops_go (i := 0) (acc := []) (by simp) (by simp) (by simp) (ops_go (i := 2) (by simp) (by simp) (by simp) (ops_end (by simp) (by simp)))
theorem ops6 (a b c d e f : Int) : Ev (fun k => spec_l71Ops.f k [a, b, c, d, e, f]) [⟨a, b⟩, ⟨c, d⟩, ⟨e, f⟩] :=
  ops_go (i := 0) (acc := []) (by simp) (by simp) (by simp) (ops_go (i := 2) (by simp) (by simp) (by simp) (ops_go (i := 4) (by simp) (by simp) (by simp) (ops_end (by simp) (by simp))))
theorem ops8 (a b c d e f g h : Int) : Ev (fun k => spec_l71Ops.f k [a, b, c, d, e, f, g, h]) [⟨a, b⟩, ⟨c, d⟩, ⟨e, f⟩, ⟨g, h⟩] :=
  ops_go (i := 0) (acc := []) (by simp) (by simp) (by simp) (ops_go (i := 2) (by simp) (by simp) (by simp) (ops_go (i := 4) (by simp) (by simp) (by simp) (ops_go (i := 6) (by simp) (by simp) (by simp) (ops_end (by simp) (by simp)))))
section
variable {n : Nat} {temps : Int}
theorem fine0 {k : Int} (h : k = 4 ∨ k = 5 ∨ k = 6 ∨ k = 10 ∨ k = 11 ∨ k = 12 ∨ k = 15 ∨ k = 16 ∨ k = 17 ∨ k = 18) : OpFine n temps ⟨k, 0⟩ := by
  intro no
  rcases h with rfl | rfl | rfl | rfl | rfl | rfl | rfl | rfl | rfl | rfl <;> rfl
theorem fine_num {a : Int} (h0 : 0 ≤ a) (h1 : a < 50) : OpFine n temps ⟨1, a⟩ := by
  intro no
  show decide (0 ≤ a ∧ a ≤ 100 - 1) = true
  exact decide_eq_true ⟨h0, by omega⟩
theorem fine_temp {a : Int} (h0 : 0 ≤ a) (h1 : a < temps) : OpFine n temps ⟨2, a⟩ := by
  intro no
  show decide (0 ≤ a ∧ a ≤ temps - 1) = true
  exact decide_eq_true ⟨h0, by omega⟩
theorem fine_set {a : Int} (h0 : 0 ≤ a) (h1 : a < temps) : OpFine n temps ⟨3, a⟩ := by
  intro no
  show decide (0 ≤ a ∧ a ≤ temps - 1) = true
  exact decide_eq_true ⟨h0, by omega⟩
theorem fine_call {a : Int} (h0 : 0 ≤ a) (h1 : a < n) : OpFine n temps ⟨9, a⟩ := by
  intro no
  show decide (0 ≤ a ∧ a ≤ (n : Int) - 1) = true
  exact decide_eq_true ⟨h0, by omega⟩
theorem fine_peek {a : Int} (h0 : 0 ≤ a) (h1 : a < 4) : OpFine n temps ⟨13, a⟩ := by
  intro no
  show decide (0 ≤ a ∧ a ≤ 4 - 1) = true
  exact decide_eq_true ⟨h0, by omega⟩
theorem fine_poke {a : Int} (h0 : 0 ≤ a) (h1 : a < 4) : OpFine n temps ⟨14, a⟩ := by
  intro no
  show decide (0 ≤ a ∧ a ≤ 4 - 1) = true
  exact decide_eq_true ⟨h0, by omega⟩
end
theorem all1 {α : Type} {P : α → Prop} {a : α} (ha : P a) : ∀ x, x ∈ [a] → P x := fun x hx => by rw [List.mem_singleton.1 hx]; exact ha
theorem all_cons {α : Type} {P : α → Prop} {a : α} {l : List α} (ha : P a) (hl : ∀ x, x ∈ l → P x) : ∀ x, x ∈ a :: l → P x := fun x hx => by
  rcases List.mem_cons.1 hx with rfl | hx
  · exact ha
  · exact hl x hx
theorem all_app {α : Type} {P : α → Prop} {a l : List α} (ha : ∀ x, x ∈ a → P x) (hl : ∀ x, x ∈ l → P x) : ∀ x, x ∈ a ++ l → P x := fun x hx => by
  rcases List.mem_append.1 hx with hx | hx
  · exact ha x hx
  · exact hl x hx
theorem end_tells (n : Nat) {temps : Int} (ht : 1 ≤ temps) {s : List Int} {p : Int} (hc : CodeOk s p) (hp : p ≤ 999999000) : ∃ a b p', Ev (fun k => spec_l71End.f k s p temps) (a, b, p') ∧ OpFine n temps ⟨a, b⟩ ∧ p ≤ p' ∧ p' ≤ p + 2 := by
  obtain ⟨r, h1, h2, h3⟩ := pick_ev hc (by omega) 4
  unfold spec_l71End.f
  by_cases r0 : r = 0
  · exact ⟨4, 0, p + 1, Ev.bnd h1 (Ev.ifp r0 (Ev.now _)), fine0 (by omega), by omega, by omega⟩
  · by_cases r1 : r = 1
    · exact ⟨16, 0, p + 1, Ev.bnd h1 (Ev.ifn r0 (Ev.ifp r1 (Ev.now _))), fine0 (by omega), by omega, by omega⟩
    · by_cases r2 : r = 2
      · exact ⟨16, 0, p + 1, Ev.bnd h1 (Ev.ifn r0 (Ev.ifn r1 (Ev.ifp r2 (Ev.now _)))), fine0 (by omega), by omega, by omega⟩
      · obtain ⟨q, k1, k2, k3⟩ := pick_ev (hc.to (q := p + 1) (by omega)) (by omega) temps
        exact ⟨3, q, p + 1 + 1, Ev.bnd h1 (Ev.ifn r0 (Ev.ifn r1 (Ev.ifn r2 (Ev.bnd k1 (Ev.now _))))), fine_set k2 (k3 ht), by omega, by omega⟩
theorem args_tells (n : Nat) {temps : Int} (ht : 1 ≤ temps) (N : Int) (hN : N ≤ 2) {s : List Int} : ∀ (d : Nat) (i : Int) (acc : List S_impl_Op) (p : Int), 0 ≤ i → N - i ≤ d → acc.length + d ≤ 100 → CodeOk s p → p + 2 * (d : Int) ≤ 999999900 → (∀ x, x ∈ acc → OpFine n temps x) →
    ∃ l p', Ev (fun k => spec_l71Args.l0 k N temps acc i s p) (l, p') ∧ (∀ x, x ∈ l → OpFine n temps x) ∧ l.length ≤ acc.length + d ∧ p ≤ p' ∧ p' ≤ p + 2 * d := by
  intro d
  induction d with
  | zero =>
    intro i acc p hi hd hl hc hp ha
    exact ⟨acc, p, Ev.step (fun k => by rw [spec_l71Args.l0]) (Ev.ifn (by omega) (Ev.now _)), ha, by omega, by omega, by omega⟩
  | succ d ih =>
    intro i acc p hi hd hl hc hp ha
    by_cases hlt : i < N
    · obtain ⟨r, h1, h2, h3⟩ := pick_ev hc (by omega) 4
      have hal : acc.length < 8796093022208 := by omega
      by_cases r0 : r = 0
      · obtain ⟨l, p', e1, e2, e3, e4, e5⟩ := ih (i + 1) (acc ++ [⟨11, 0⟩]) (p + 1) (by omega) (by omega) (by rw [List.length_append, List.length_singleton]; omega) (hc.to (by omega)) (by omega) (all_app ha (all1 (fine0 (by omega))))
        rw [← w64 (x := i + 1) (by omega) (by omega)] at e1
        simp only [List.length_append, List.length_singleton] at e3
        exact ⟨l, p', Ev.step (fun k => by rw [spec_l71Args.l0]) (Ev.ifp hlt (Ev.bnd h1 (Ev.ifp r0 (Ev.ifp hal e1)))), e2, by omega, by omega, by omega⟩
      · by_cases r1 : r = 1
        · obtain ⟨q, k1, k2, k3⟩ := pick_ev (hc.to (q := p + 1) (by omega)) (by omega) 10
          obtain ⟨l, p', e1, e2, e3, e4, e5⟩ := ih (i + 1) (acc ++ [⟨1, q⟩]) (p + 1 + 1) (by omega) (by omega) (by rw [List.length_append, List.length_singleton]; omega) (hc.to (by omega)) (by omega) (all_app ha (all1 (fine_num k2 (by have := k3 (by omega); omega))))
          rw [← w64 (x := i + 1) (by omega) (by omega)] at e1
          simp only [List.length_append, List.length_singleton] at e3
          exact ⟨l, p', Ev.step (fun k => by rw [spec_l71Args.l0]) (Ev.ifp hlt (Ev.bnd h1 (Ev.ifn r0 (Ev.ifp r1 (Ev.bnd k1 (Ev.ifp hal e1)))))), e2, by omega, by omega, by omega⟩
        · obtain ⟨q, k1, k2, k3⟩ := pick_ev (hc.to (q := p + 1) (by omega)) (by omega) temps
          obtain ⟨l, p', e1, e2, e3, e4, e5⟩ := ih (i + 1) (acc ++ [⟨2, q⟩]) (p + 1 + 1) (by omega) (by omega) (by rw [List.length_append, List.length_singleton]; omega) (hc.to (by omega)) (by omega) (all_app ha (all1 (fine_temp k2 (k3 ht))))
          rw [← w64 (x := i + 1) (by omega) (by omega)] at e1
          simp only [List.length_append, List.length_singleton] at e3
          exact ⟨l, p', Ev.step (fun k => by rw [spec_l71Args.l0]) (Ev.ifp hlt (Ev.bnd h1 (Ev.ifn r0 (Ev.ifn r1 (Ev.bnd k1 (Ev.ifp hal e1)))))), e2, by omega, by omega, by omega⟩
    · exact ⟨acc, p, Ev.step (fun k => by rw [spec_l71Args.l0]) (Ev.ifn hlt (Ev.now _)), ha, by omega, by omega, by omega⟩
theorem look0_tells (n : Nat) {temps : Int} {s : List Int} {p : Int} (hc : CodeOk s p) (hp : p ≤ 999999000) (l : List S_impl_Op) (hl : l.length ≤ 10) (ha : ∀ x, x ∈ l → OpFine n temps x) :
    ∃ l' p', Ev (fun k => spec_l71Look.j0 k l s p) (l', p') ∧ (∀ x, x ∈ l' → OpFine n temps x) ∧ l'.length ≤ 11 ∧ p ≤ p' ∧ p' ≤ p + 2 := by
  obtain ⟨r, h1, h2, h3⟩ := pick_ev hc (by omega) 6
  have hal : l.length < 8796093022208 := by omega
  have len : ∀ x : S_impl_Op, (l ++ [x]).length ≤ 11 := fun x => by simp; omega
  by_cases r0 : r = 0
  · exact ⟨_, p + 1, Ev.step (fun k => by rw [spec_l71Look.j0]) (Ev.bnd h1 (Ev.ifp r0 (Ev.ifp hal (Ev.now _)))), all_app ha (all1 (fine0 (by omega))), len _, by omega, by omega⟩
  · have j1 : ∀ b : Bool, (b = true → r = 1 ∨ r = 2) → ∃ l' p', Ev (fun k => spec_l71Look.j1 k l r b s (p + 1)) (l', p') ∧ (∀ x, x ∈ l' → OpFine n temps x) ∧ l'.length ≤ 11 ∧ p ≤ p' ∧ p' ≤ p + 2 := by
      intro b _
      cases b with
      | true =>
        obtain ⟨q, k1, k2, k3⟩ := pick_ev (hc.to (q := p + 1) (by omega)) (by omega) 4
        exact ⟨_, p + 1 + 1, Ev.step (fun k => by rw [spec_l71Look.j1]) (Ev.ifp rfl (Ev.bnd k1 (Ev.ifp hal (Ev.now _)))), all_app ha (all1 (fine_peek k2 (k3 (by omega)))), len _, by omega, by omega⟩
      | false =>
        by_cases r3 : r = 3
        · exact ⟨_, p + 1, Ev.step (fun k => by rw [spec_l71Look.j1]) (Ev.ifn (by simp) (Ev.ifp r3 (Ev.ifp hal (Ev.now _)))), all_app ha (all1 (fine0 (by omega))), len _, by omega, by omega⟩
        · by_cases r4 : r = 4
          · exact ⟨_, p + 1, Ev.step (fun k => by rw [spec_l71Look.j1]) (Ev.ifn (by simp) (Ev.ifn r3 (Ev.ifp r4 (Ev.ifp hal (Ev.now _))))), all_app ha (all1 (fine0 (by omega))), len _, by omega, by omega⟩
          · exact ⟨_, p + 1, Ev.step (fun k => by rw [spec_l71Look.j1]) (Ev.ifn (by simp) (Ev.ifn r3 (Ev.ifn r4 (Ev.now _)))), ha, by omega, by omega, by omega⟩
    by_cases r1 : r = 1
    · obtain ⟨l', p', e1, e⟩ := j1 (r == 1) (by simp; omega)
      exact ⟨l', p', Ev.step (fun k => by rw [spec_l71Look.j0]) (Ev.bnd h1 (Ev.ifn r0 (Ev.ifp r1 e1))), e⟩
    · obtain ⟨l', p', e1, e⟩ := j1 (r == 2) (by simp; omega)
      exact ⟨l', p', Ev.step (fun k => by rw [spec_l71Look.j0]) (Ev.bnd h1 (Ev.ifn r0 (Ev.ifn r1 e1))), e⟩
theorem look_tells (n : Nat) {temps : Int} (ht : 1 ≤ temps) {s : List Int} {p : Int} (hc : CodeOk s p) (hp : p ≤ 999998000) :
    ∃ l' p', Ev (fun k => spec_l71Look.f k s p temps) (l', p') ∧ (∀ x, x ∈ l' → OpFine n temps x) ∧ l'.length ≤ 11 ∧ p ≤ p' ∧ p' ≤ p + 4 := by
  obtain ⟨r, h1, h2, h3⟩ := pick_ev hc (by omega) 5
  unfold spec_l71Look.f
  by_cases r0 : r = 0
  · obtain ⟨q, k1, k2, k3⟩ := pick_ev (hc.to (q := p + 1) (by omega)) (by omega) temps
    obtain ⟨l', p', e1, e2, e3, e4, e5⟩ := look0_tells n (temps := temps) (hc.to (q := p + 1 + 1) (by omega)) (by omega) [⟨2, q⟩] (by simp) (all1 (fine_temp k2 (k3 ht)))
    exact ⟨l', p', Ev.bnd (ops2 11 0) (Ev.bnd h1 (Ev.ifp r0 (Ev.bnd k1 (Ev.bnd (ops2 2 q) e1)))), e2, e3, by omega, by omega⟩
  · have two : ∀ x : S_impl_Op, x ∈ [(⟨11, 0⟩ : S_impl_Op), ⟨12, 0⟩] → OpFine n temps x := all_cons (fine0 (by omega)) (all1 (fine0 (by omega)))
    obtain ⟨l', p', e1, e2, e3, e4, e5⟩ := look0_tells n (temps := temps) (hc.to (q := p + 1) (by omega)) (by omega) [⟨11, 0⟩, ⟨12, 0⟩] (by simp) two
    by_cases r1 : r = 1
    · exact ⟨l', p', Ev.bnd (ops2 11 0) (Ev.bnd h1 (Ev.ifn r0 (Ev.ifp r1 (Ev.bnd (ops4 11 0 12 0) e1)))), e2, e3, by omega, by omega⟩
    · by_cases r2 : r = 2
      · exact ⟨l', p', Ev.bnd (ops2 11 0) (Ev.bnd h1 (Ev.ifn r0 (Ev.ifn r1 (Ev.ifp r2 (Ev.bnd (ops4 11 0 12 0) e1))))), e2, e3, by omega, by omega⟩
      · obtain ⟨l', p', e1, e2, e3, e4, e5⟩ := look0_tells n (temps := temps) (hc.to (q := p + 1) (by omega)) (by omega) [⟨11, 0⟩] (by simp) (all1 (fine0 (by omega)))
        exact ⟨l', p', Ev.bnd (ops2 11 0) (Ev.bnd h1 (Ev.ifn r0 (Ev.ifn r1 (Ev.ifn r2 e1)))), e2, e3, by omega, by omega⟩
theorem part_tells {L : List Int} (hL : ∀ x, x ∈ L → 0 ≤ x ∧ x ≤ 2) (hn0 : 1 ≤ L.length) (hn : L.length ≤ 100) {temps : Int} (ht : 1 ≤ temps) {s : List Int} {p : Int} (hc : CodeOk s p) (hp : p ≤ 999990000) :
    ∃ l p', Ev (fun k => spec_l71Part.f k s p L temps) (l, p') ∧ (∀ x, x ∈ l → OpFine L.length temps x) ∧ l.length ≤ 30 ∧ p ≤ p' ∧ p' ≤ p + 30 := by
  obtain ⟨r, h1, h2, h3⟩ := pick_ev hc (by omega) 10
  have h3' := h3 (by omega)
  clear h3
  have c1 : CodeOk s (p + 1) := hc.to (by omega)
  have c2 : CodeOk s (p + 1 + 1) := hc.to (by omega)
  have c3 : CodeOk s (p + 1 + 1 + 1) := hc.to (by omega)
  have j1 : ∀ b : Bool, b = (r == 4) ∨ b = (r == 5) → ¬ r = 0 → ¬ r = 1 → ¬ r = 2 → ¬ r = 3 → ∃ l p', Ev (fun k => spec_l71Part.j1 k temps r b s (p + 1)) (l, p') ∧ (∀ x, x ∈ l → OpFine L.length temps x) ∧ l.length ≤ 30 ∧ p ≤ p' ∧ p' ≤ p + 30 := by
    intro b _ _ _ _ _
    cases b with
    | true =>
      obtain ⟨l, q, e1, e2, e3, e4, e5⟩ := look_tells L.length ht c1 (by omega)
      obtain ⟨a, b, q', f1, f2, f3, f4⟩ := end_tells L.length ht (hc.to (q := q) (by omega)) (by omega)
      have hal : l.length < 8796093022208 := by omega
      exact ⟨_, q', Ev.step (fun k => by rw [spec_l71Part.j1]) (Ev.ifp rfl (Ev.bnd e1 (Ev.bnd f1 (Ev.ifp hal (Ev.now _))))), all_app e2 (all1 f2), by simp; omega, by omega, by omega⟩
    | false =>
      by_cases r6 : r = 6
      · obtain ⟨q, k1, k2, k3⟩ := pick_ev c1 (by omega) temps
        refine ⟨[⟨11, 0⟩, ⟨3, q⟩], p + 1 + 1, ?_, all_cons (fine0 (by omega)) (all1 (fine_set k2 (k3 ht))), by simp, by omega, by omega⟩
        refine Ev.step (fun k => by rw [spec_l71Part.j1]) ?_
        refine Ev.ifn (by simp) ?_
        refine Ev.ifp r6 ?_
        refine Ev.bnd k1 ?_
        refine Ev.bnd (ops4 11 0 3 q) ?_
        exact Ev.now _
      · by_cases r7 : r = 7
        · obtain ⟨t, k1, k2, k3⟩ := pick_ev c1 (by omega) 2
          by_cases t0 : t = 0
          · obtain ⟨u, l1, l2, l3⟩ := pick_ev c2 (by omega) 9
            obtain ⟨v, m1, m2, m3⟩ := pick_ev c3 (by omega) 4
            refine ⟨[⟨11, 0⟩, ⟨12, 0⟩, ⟨1, u⟩, ⟨14, v⟩], p + 1 + 1 + 1 + 1, ?_, all_cons (fine0 (by omega)) (all_cons (fine0 (by omega)) (all_cons (fine_num l2 (by have := l3 (by omega); omega)) (all1 (fine_poke m2 (m3 (by omega)))))), by simp, by omega, by omega⟩
            refine Ev.step (fun k => by rw [spec_l71Part.j1]) ?_
            refine Ev.ifn (by simp) ?_
            refine Ev.ifn r6 ?_
            refine Ev.ifp r7 ?_
            refine Ev.bnd k1 ?_
            refine Ev.ifp t0 ?_
            refine Ev.bnd l1 ?_
            refine Ev.bnd m1 ?_
            refine Ev.bnd (ops8 11 0 12 0 1 u 14 v) ?_
            exact Ev.now _
          · obtain ⟨u, l1, l2, l3⟩ := pick_ev c2 (by omega) temps
            obtain ⟨v, m1, m2, m3⟩ := pick_ev c3 (by omega) temps
            refine ⟨[⟨2, u⟩, ⟨2, v⟩, ⟨6, 0⟩, ⟨16, 0⟩], p + 1 + 1 + 1 + 1, ?_, all_cons (fine_temp l2 (l3 ht)) (all_cons (fine_temp m2 (m3 ht)) (all_cons (fine0 (by omega)) (all1 (fine0 (by omega))))), by simp, by omega, by omega⟩
            refine Ev.step (fun k => by rw [spec_l71Part.j1]) ?_
            refine Ev.ifn (by simp) ?_
            refine Ev.ifn r6 ?_
            refine Ev.ifp r7 ?_
            refine Ev.bnd k1 ?_
            refine Ev.ifn t0 ?_
            refine Ev.bnd l1 ?_
            refine Ev.bnd m1 ?_
            refine Ev.bnd (ops8 2 u 2 v 6 0 16 0) ?_
            exact Ev.now _
        · by_cases r8 : r = 8
          · obtain ⟨u, l1, l2, l3⟩ := pick_ev c1 (by omega) temps
            obtain ⟨v, m1, m2, m3⟩ := pick_ev c2 (by omega) 9
            refine ⟨[⟨2, u⟩, ⟨1, v⟩, ⟨15, 0⟩] ++ [⟨4, 0⟩], p + 1 + 1 + 1, ?_, all_app (all_cons (fine_temp l2 (l3 ht)) (all_cons (fine_num m2 (by have := m3 (by omega); omega)) (all1 (fine0 (by omega))))) (all1 (fine0 (by omega))), by simp, by omega, by omega⟩
            refine Ev.step (fun k => by rw [spec_l71Part.j1]) ?_
            refine Ev.ifn (by simp) ?_
            refine Ev.ifn r6 ?_
            refine Ev.ifn r7 ?_
            refine Ev.ifp r8 ?_
            refine Ev.bnd l1 ?_
            refine Ev.bnd m1 ?_
            refine Ev.bnd (ops6 2 u 1 v 15 0) ?_
            refine Ev.ifp (by simp only [List.length_cons, List.length_nil]; decide) ?_
            exact Ev.now _
          · obtain ⟨u, l1, l2, l3⟩ := pick_ev c1 (by omega) 50
            obtain ⟨v, m1, m2, m3⟩ := pick_ev c2 (by omega) 50
            refine ⟨[⟨1, u⟩, ⟨1, v⟩, ⟨5, 0⟩, ⟨16, 0⟩], p + 1 + 1 + 1, ?_, all_cons (fine_num l2 (l3 (by omega))) (all_cons (fine_num m2 (m3 (by omega))) (all_cons (fine0 (by omega)) (all1 (fine0 (by omega))))), by simp, by omega, by omega⟩
            refine Ev.step (fun k => by rw [spec_l71Part.j1]) ?_
            refine Ev.ifn (by simp) ?_
            refine Ev.ifn r6 ?_
            refine Ev.ifn r7 ?_
            refine Ev.ifn r8 ?_
            refine Ev.bnd l1 ?_
            refine Ev.bnd m1 ?_
            refine Ev.bnd (ops8 1 u 1 v 5 0 16 0) ?_
            exact Ev.now _
  have j0 : ∀ b : Bool, (b = true ∨ (¬ r = 0 ∧ ¬ r = 1 ∧ ¬ r = 2 ∧ ¬ r = 3)) → ∃ l p', Ev (fun k => spec_l71Part.j0 k L temps r b s (p + 1)) (l, p') ∧ (∀ x, x ∈ l → OpFine L.length temps x) ∧ l.length ≤ 30 ∧ p ≤ p' ∧ p' ≤ p + 30 := by
    intro b hb
    cases b with
    | true =>
      obtain ⟨q, k1, k2, k3⟩ := pick_ev c1 (by omega) (L.length : Int)
      have k4 := k3 (by omega)
      have hq : 0 ≤ rd L q ∧ rd L q ≤ 2 := by
        unfold rd
        rw [List.getD_eq_getElem?_getD, List.getElem?_eq_getElem (by omega : q.toNat < L.length)]
        exact hL _ (List.getElem_mem _)
      obtain ⟨l, q1, e1, e2, e3, e4, e5⟩ := args_tells L.length ht (rd L q) hq.2 2 0 [] (p + 1 + 1) (by omega) (by omega) (by simp) c2 (by omega) (fun x hx => by simp at hx)
      obtain ⟨a, b, q', f1, f2, f3, f4⟩ := end_tells L.length ht (hc.to (q := q1) (by omega)) (by omega)
      simp only [List.length_nil] at e3
      have hal : l.length < 8796093022208 := by omega
      have hal2 : (l ++ [(⟨9, q⟩ : S_impl_Op)]).length < 8796093022208 := by rw [List.length_append, List.length_singleton]; omega
      exact ⟨_, q', Ev.step (fun k => by rw [spec_l71Part.j0]) (Ev.ifp rfl (Ev.bnd k1 (Ev.ifp k2 (Ev.ifp k4 (Ev.bnd e1 (Ev.ifp hal (Ev.bindc rfl (Ev.bnd f1 (Ev.ifp hal2 (Ev.now _)))))))))), all_app (all_app e2 (all1 (fine_call k2 k4))) (all1 f2), by simp; omega, by omega, by omega⟩
    | false =>
      obtain ⟨r0, r1, r2, r3⟩ := hb.resolve_left (by simp)
      by_cases r4 : r = 4
      · obtain ⟨l, p', e⟩ := j1 (r == 4) (.inl rfl) r0 r1 r2 r3
        exact ⟨l, p', Ev.step (fun k => by rw [spec_l71Part.j0]) (Ev.ifn (by simp) (Ev.ifp r4 e.1)), e.2⟩
      · obtain ⟨l, p', e⟩ := j1 (r == 5) (.inr rfl) r0 r1 r2 r3
        exact ⟨l, p', Ev.step (fun k => by rw [spec_l71Part.j0]) (Ev.ifn (by simp) (Ev.ifn r4 e.1)), e.2⟩
  unfold spec_l71Part.f
  by_cases r0 : r = 0
  · obtain ⟨q, k1, k2, k3⟩ := pick_ev c1 (by omega) 20
    obtain ⟨a, b, q', f1, f2, f3, f4⟩ := end_tells L.length ht c2 (by omega)
    have hal : ([(⟨1, q⟩ : S_impl_Op)]).length < 8796093022208 := by rw [List.length_singleton]; decide
    exact ⟨_, q', Ev.bnd h1 (Ev.ifp r0 (Ev.bnd k1 (Ev.bnd (ops2 1 q) (Ev.bnd f1 (Ev.ifp hal (Ev.now _)))))), all_app (all1 (fine_num k2 (by have := k3 (by omega); omega))) (all1 f2), by simp, by omega, by omega⟩
  · by_cases r1 : r = 1
    · obtain ⟨l, p', e⟩ := j0 (r == 1) (.inl (by simp [r1]))
      exact ⟨l, p', Ev.bnd h1 (Ev.ifn r0 (Ev.ifp r1 e.1)), e.2⟩
    · by_cases r2 : r = 2
      · obtain ⟨l, p', e⟩ := j0 (r == 2) (.inl (by simp [r2]))
        exact ⟨l, p', Ev.bnd h1 (Ev.ifn r0 (Ev.ifn r1 (Ev.ifp r2 e.1))), e.2⟩
      · obtain ⟨l, p', e⟩ := j0 (r == 3) (by
          by_cases r3 : r = 3
          · exact .inl (by simp [r3])
          · exact .inr ⟨r0, r1, r2, r3⟩)
        exact ⟨l, p', Ev.bnd h1 (Ev.ifn r0 (Ev.ifn r1 (Ev.ifn r2 e.1))), e.2⟩
def OpLate (n : Nat) (temps : Int) (op : S_impl_Op) : Prop := ∀ no, 1 ≤ no → opOkB n temps no op.f0 op.f1 = true
theorem OpFine.late {n : Nat} {temps : Int} {op : S_impl_Op} (h : OpFine n temps op) : OpLate n temps op := fun no _ => h no
theorem late_zero (n : Nat) (temps : Int) : OpLate n temps ⟨8, 0⟩ := fun no h => by
  show decide (0 ≤ 0 ∧ 0 ≤ (no : Int) - 1) = true
  exact decide_eq_true ⟨by omega, by omega⟩
theorem fin_tells (n : Nat) {args temps : Int} (ha : 0 ≤ args ∧ args ≤ 2 ∧ args ≤ temps) (ht : 1 ≤ temps ∧ temps ≤ 4) {s : List Int} {p : Int} (hc : CodeOk s p) (hp : p ≤ 999999000) (l : List S_impl_Op) (hl : l.length ≤ 12)
    (hop : ∀ x, x ∈ l → opOkB n temps (l.length + 2) x.f0 x.f1 = true) :
    ∃ m p', Ev (fun k => spec_l71Method.j2 k s p args temps l) (m.f0, m.f1, m.f2, p') ∧ methodBadB n m = false ∧ m.f0 = args ∧ 1 ≤ m.f2.length ∧ p ≤ p' ∧ p' ≤ p + 2 := by
  obtain ⟨r, h1, h2, h3⟩ := pick_ev hc (by omega) 3
  have hal : l.length < 8796093022208 := by omega
  have good : ∀ x : S_impl_Op, OpFine n temps x → methodBadB n ⟨args, temps, (l ++ [x]) ++ [⟨10, 0⟩]⟩ = false := by
    intro x hx
    unfold methodBadB
    have hlen : ((l ++ [x]) ++ [(⟨10, 0⟩ : S_impl_Op)]).length = l.length + 2 := by simp
    rw [if_pos ⟨ha.1, ha.2.1, ha.2.2, ht.2, by rw [hlen]; omega⟩, List.any_eq_false]
    intro y hy
    show ¬ (!opOkB n temps ((l ++ [x]) ++ [(⟨10, 0⟩ : S_impl_Op)]).length y.f0 y.f1) = true
    rw [hlen]
    rcases List.mem_append.1 hy with hy | hy
    · rcases List.mem_append.1 hy with hy | hy
      · rw [hop y hy]; simp
      · rw [List.mem_singleton.1 hy, hx (l.length + 2)]; simp
    · rw [List.mem_singleton.1 hy, (fine0 (n := n) (temps := temps) (k := 10) (by omega)) (l.length + 2)]; simp
  by_cases r0 : r = 0
  · refine ⟨⟨args, temps, (l ++ [⟨11, 0⟩]) ++ [⟨10, 0⟩]⟩, p + 1, ?_, good _ (fine0 (by omega)), rfl, by simp, by omega, by omega⟩
    refine Ev.step (fun k => by rw [spec_l71Method.j2]) ?_
    refine Ev.bnd h1 ?_
    refine Ev.ifp r0 ?_
    refine Ev.ifp hal ?_
    refine Ev.bindc rfl ?_
    refine Ev.ifp (by rw [List.length_append, List.length_singleton]; omega) ?_
    exact Ev.now _
  · obtain ⟨q, k1, k2, k3⟩ := pick_ev (hc.to (q := p + 1) (by omega)) (by omega) temps
    refine ⟨⟨args, temps, (l ++ [⟨2, q⟩]) ++ [⟨10, 0⟩]⟩, p + 1 + 1, ?_, good _ (fine_temp k2 (k3 ht.1)), rfl, by simp, by omega, by omega⟩
    refine Ev.step (fun k => by rw [spec_l71Method.j2]) ?_
    refine Ev.bnd h1 ?_
    refine Ev.ifn r0 ?_
    refine Ev.bnd k1 ?_
    refine Ev.ifp hal ?_
    refine Ev.bindc rfl ?_
    refine Ev.ifp (by rw [List.length_append, List.length_singleton]; omega) ?_
    exact Ev.now _
theorem rd_Op_app {l l' : List S_impl_Op} {i : Int} (h : i.toNat < l.length) : rd_impl_Op (l ++ l') i = rd_impl_Op l i := by
  unfold rd_impl_Op
  rw [List.getD_eq_getElem?_getD, List.getD_eq_getElem?_getD, List.getElem?_append_left h]
def Skip (l : List S_impl_Op) (k : Int) : Prop := k = -1 ∨ (0 ≤ k ∧ k < (l.length : Int) ∧ rd_impl_Op l k = ⟨8, 0⟩)
theorem Skip.app {l : List S_impl_Op} {k : Int} (h : Skip l k) (l' : List S_impl_Op) : Skip (l ++ l') k := by
  rcases h with h | ⟨h0, h1, h2⟩
  · exact .inl h
  · exact .inr ⟨h0, by rw [List.length_append]; omega, by rw [rd_Op_app (by omega)]; exact h2⟩
set_option maxHeartbeats 1000000 in
theorem methodLoop_tells {L : List Int} (hL : ∀ x, x ∈ L → 0 ≤ x ∧ x ≤ 2) (hn0 : 1 ≤ L.length) (hn : L.length ≤ 100) {args temps : Int} (ha : 0 ≤ args ∧ args ≤ 2 ∧ args ≤ temps) (ht : 1 ≤ temps ∧ temps ≤ 4) {s : List Int} :
    ∀ (d : Nat) (i k : Int) (l : List S_impl_Op) (p : Int), 0 ≤ i → i + d = 4 → CodeOk s p → p + 40 * (d : Int) ≤ 999980000 → l.length ≤ 12 → Skip l k → (∀ x, x ∈ l → OpLate L.length temps x) →
    ∃ m p', Ev (fun n => spec_l71Method.l0 n L k i s p args temps l) (m.f0, m.f1, m.f2, p') ∧ methodBadB L.length m = false ∧ m.f0 = args ∧ 1 ≤ m.f2.length ∧ p ≤ p' ∧ p' ≤ p + 40 * (d : Int) + 2 := by
  intro d
  induction d with
  | zero =>
    intro i k l p hi hd hc hp hl hk hop
    rcases hk with rfl | ⟨k0, k1, k2⟩
    · obtain ⟨m, p', e1, e2, e3, e4, e5, e6⟩ := fin_tells L.length ha ht hc (by omega) l hl (fun x hx => hop x hx _ (by omega))
      refine ⟨m, p', ?_, e2, e3, e4, e5, by omega⟩
      refine Ev.step (fun n => by rw [spec_l71Method.l0]) ?_
      refine Ev.ifn (by omega) ?_
      refine Ev.ifn (by omega) ?_
      exact e1
    · obtain ⟨m, p', e1, e2, e3, e4, e5, e6⟩ := fin_tells L.length ha ht hc (by omega) (l.set k.toNat ⟨(rd_impl_Op l k).f0, (l.length : Int)⟩) (by rw [List.length_set]; exact hl) (fun x hx => by
        rw [List.length_set]
        rcases List.mem_or_eq_of_mem_set hx with hx | hx
        · exact hop x hx _ (by omega)
        · rw [hx, k2]
          show decide (0 ≤ (l.length : Int) ∧ (l.length : Int) ≤ ((l.length + 2 : Nat) : Int) - 1) = true
          exact decide_eq_true ⟨by omega, by omega⟩)
      refine ⟨m, p', ?_, e2, e3, e4, e5, by omega⟩
      refine Ev.step (fun n => by rw [spec_l71Method.l0]) ?_
      refine Ev.ifn (by omega) ?_
      refine Ev.ifp k0 ?_
      refine Ev.ifp k0 ?_
      refine Ev.ifp k1 ?_
      exact e1
  | succ d ih =>
    intro i k l p hi hd hc hp hl hk hop
    have hw : Aside0 (wrap64 (i + 1) = i + 1) := ⟨w64 (by omega) (by omega)⟩
    obtain ⟨part, q, f1, f2, f3, f4, f5⟩ := part_tells hL hn0 hn ht.1 hc (by omega)
    have hpl : (part.length : Int) ≤ 30 := by omega
    have hll : (l.length : Int) ≤ 12 := by omega
    have hs1 : Aside0 (wrap64 ((l.length : Int) + (part.length : Int)) = (l.length : Int) + (part.length : Int)) := ⟨w64 (by omega) (by omega)⟩
    have take : ∀ (k' : Int) (l' : List S_impl_Op) (p1 : Int), p ≤ p1 → p1 ≤ p + 40 → l'.length ≤ 12 → Skip l' k' → (∀ x, x ∈ l' → OpLate L.length temps x) → ∃ m p', (Ev (fun n => if wrap64 ((l'.length : Int) + (part.length : Int)) ≤ 12 then (if l'.length + part.length < 8796093022208 then (spec_l71Method.l0 n L k' (wrap64 (i + 1)) s p1 args temps (l' ++ part)) else none) else (spec_l71Method.l0 n L k' (wrap64 (i + 1)) s p1 args temps l')) (m.f0, m.f1, m.f2, p')) ∧
        methodBadB L.length m = false ∧ m.f0 = args ∧ 1 ≤ m.f2.length ∧ p ≤ p' ∧ p' ≤ p + 40 * ((d + 1 : Nat) : Int) + 2 := by
      intro k' l' p1 hp0 hp1 hl' hk' hop'
      have hs2 : Aside0 (wrap64 ((l'.length : Int) + (part.length : Int)) = (l'.length : Int) + (part.length : Int)) := ⟨w64 (by omega) (by omega)⟩
      rw [hs2.out, hw.out]
      by_cases c : (l'.length : Int) + (part.length : Int) ≤ 12
      · obtain ⟨m, p', e1, e2, e3, e4, e5, e6⟩ := ih (i + 1) k' (l' ++ part) p1 (by omega) (by omega) (hc.to hp0) (by omega) (by rw [List.length_append]; omega) (hk'.app part) (all_app hop' (fun x hx => (f2 x hx).late))
        exact ⟨m, p', Ev.ifp c (Ev.ifp (by omega) e1), e2, e3, e4, by omega, by omega⟩
      · obtain ⟨m, p', e1, e2, e3, e4, e5, e6⟩ := ih (i + 1) k' l' p1 (by omega) (by omega) (hc.to hp0) (by omega) hl' hk' hop'
        exact ⟨m, p', Ev.ifn c e1, e2, e3, e4, by omega, by omega⟩
    have j1 : ∀ (b : Bool) (p1 : Int), p ≤ p1 → p1 ≤ p + 35 → (b = true → k = -1 ∧ (l.length : Int) + (part.length : Int) ≤ 10) → ∃ m p', Ev (fun n => spec_l71Method.j1 n L k i part b s p1 args temps l) (m.f0, m.f1, m.f2, p') ∧ methodBadB L.length m = false ∧ m.f0 = args ∧ 1 ≤ m.f2.length ∧ p ≤ p' ∧ p' ≤ p + 40 * ((d + 1 : Nat) : Int) + 2 := by
      intro b p1 hp0 hp1 hb
      cases b with
      | false =>
        obtain ⟨m, p', e1, e⟩ := take k l p1 hp0 (by omega) hl hk hop
        exact ⟨m, p', Ev.step (fun n => by rw [spec_l71Method.j1]) (Ev.ifn (by simp) e1), e⟩
      | true =>
        obtain ⟨rfl, hb2⟩ := hb rfl
        obtain ⟨t, k1, k2, k3⟩ := pick_ev (hc.to hp0) (by omega) temps
        have hl2 : (l ++ [(⟨2, t⟩ : S_impl_Op), ⟨8, 0⟩]).length = l.length + 2 := by simp
        have hw2 : Aside0 (wrap64 ((l.length : Int) + 1) = (l.length : Int) + 1) := ⟨w64 (by omega) (by omega)⟩
        obtain ⟨m, p', e1, e⟩ := take ((l.length : Int) + 1) (l ++ [⟨2, t⟩, ⟨8, 0⟩]) (p1 + 1) (by omega) (by omega) (by rw [hl2]; omega) (.inr ⟨by omega, by rw [hl2]; omega, by
          unfold rd_impl_Op
          rw [List.getD_eq_getElem?_getD, show ((l.length : Int) + 1).toNat = l.length + 1 from by omega, List.getElem?_append_right (by omega), show l.length + 1 - l.length = 1 from by omega]
          rfl⟩) (all_app hop (all_cons (fine_temp k2 (k3 ht.1)).late (all1 (late_zero _ _))))
        refine ⟨m, p', ?_, e⟩
        refine Ev.step (fun n => by rw [spec_l71Method.j1]) ?_
        refine Ev.ifp rfl ?_
        refine Ev.bnd k1 ?_
        refine Ev.bindc rfl ?_
        refine Ev.ifp (by simp; omega) ?_
        refine Ev.bindc rfl ?_
        rw [hw2.out]
        exact e1
    by_cases c0 : k < 0
    · obtain ⟨r, h1, h2, h3⟩ := pick_ev (hc.to f4) (by omega) 6
      have hk1 : k = -1 := by
        rcases hk with hk | hk
        · exact hk
        · omega
      by_cases r0 : r = 0
      · obtain ⟨m, p', e1, e⟩ := j1 (decide (wrap64 ((l.length : Int) + (part.length : Int)) ≤ 10)) (q + 1) (by omega) (by omega) (fun h => ⟨hk1, by rw [hs1.out] at h; exact of_decide_eq_true h⟩)
        exact ⟨m, p', Ev.step (fun n => by rw [spec_l71Method.l0]) (Ev.ifp (by omega) (Ev.bnd f1 (Ev.ifp c0 (Ev.bnd h1 (Ev.ifp r0 e1))))), e⟩
      · obtain ⟨m, p', e1, e⟩ := j1 false (q + 1) (by omega) (by omega) (fun h => by cases h)
        exact ⟨m, p', Ev.step (fun n => by rw [spec_l71Method.l0]) (Ev.ifp (by omega) (Ev.bnd f1 (Ev.ifp c0 (Ev.bnd h1 (Ev.ifn r0 e1))))), e⟩
    · obtain ⟨m, p', e1, e⟩ := j1 false q (by omega) (by omega) (fun h => by cases h)
      exact ⟨m, p', Ev.step (fun n => by rw [spec_l71Method.l0]) (Ev.ifp (by omega) (Ev.bnd f1 (Ev.ifn c0 e1))), e⟩
theorem method_tells {L : List Int} (hL : ∀ x, x ∈ L → 0 ≤ x ∧ x ≤ 2) (hn : L.length ≤ 100) {s : List Int} {p a : Int} (hc : CodeOk s p) (hp : p ≤ 999900000) (h0 : 0 ≤ a) (h1 : a < L.length) :
    ∃ m p', Ev (fun k => spec_l71Method.f k s p L a) (m.f0, m.f1, m.f2, p') ∧ methodBadB L.length m = false ∧ m.f0 = rd L a ∧ 1 ≤ m.f2.length ∧ p ≤ p' ∧ p' ≤ p + 200 := by
  obtain ⟨r, k1, k2, k3⟩ := pick_ev hc (by omega) 3
  have k4 := k3 (by omega)
  have hr : 0 ≤ rd L a ∧ rd L a ≤ 2 := by
    unfold rd
    rw [List.getD_eq_getElem?_getD, List.getElem?_eq_getElem (by omega : a.toNat < L.length)]
    exact hL _ (List.getElem_mem _)
  have hw : Aside0 (wrap64 (1 + r) = 1 + r) := ⟨w64 (by omega) (by omega)⟩
  have hm : rd L a ≤ mx (rd L a) (1 + r) ∧ 1 ≤ mx (rd L a) (1 + r) ∧ mx (rd L a) (1 + r) ≤ 4 := by unfold mx; split <;> omega
  obtain ⟨m, p', e1, e2, e3, e4, e5, e6⟩ := methodLoop_tells hL (by omega) hn (args := rd L a) (temps := mx (rd L a) (1 + r)) ⟨hr.1, hr.2, hm.1⟩ ⟨hm.2.1, hm.2.2⟩ (s := s) 4 0 (-1) [] (p + 1) (by omega) (by omega) (hc.to (by omega)) (by omega) (by simp) (.inl rfl) (fun x hx => by simp at hx)
  refine ⟨m, p', ?_, e2, e3, e4, by omega, by omega⟩
  unfold spec_l71Method.f
  refine Ev.ifp h0 ?_
  refine Ev.ifp h1 ?_
  refine Ev.bnd k1 ?_
  rw [hw.out]
  exact e1
theorem progLoop_tells {L : List Int} (hL : ∀ x, x ∈ L → 0 ≤ x ∧ x ≤ 2) (hn : L.length ≤ 4) {s : List Int} : ∀ (d : Nat) (i : Int) (acc : List S_impl_Method) (p : Int), 0 ≤ i → i + d = L.length → (acc.length : Int) = i → CodeOk s p → p + 200 * (d : Int) ≤ 999890000 →
    (∀ x, x ∈ acc → methodBadB L.length x = false ∧ 1 ≤ x.f2.length) → (∀ (j : Nat) m, acc[j]? = some m → m.f0 = rd L j) →
    ∃ l p', Ev (fun k => spec_l71Prog.l1 k L i s p acc) (l, p') ∧ l.length = L.length ∧ (∀ x, x ∈ l → methodBadB L.length x = false ∧ 1 ≤ x.f2.length) ∧ (∀ (j : Nat) m, l[j]? = some m → m.f0 = rd L j) ∧ p ≤ p' ∧ p' ≤ p + 200 * (d : Int) := by
  intro d
  induction d with
  | zero =>
    intro i acc p hi hd hl hc hp ha hj
    exact ⟨acc, p, Ev.step (fun k => by rw [spec_l71Prog.l1]) (Ev.ifn (by omega) (Ev.now _)), by omega, ha, hj, by omega, by omega⟩
  | succ d ih =>
    intro i acc p hi hd hl hc hp ha hj
    obtain ⟨m, q, f1, f2, f3, f4, f5, f6⟩ := method_tells hL (by omega) hc (by omega) hi (by omega)
    have hal : acc.length < 3518437208883 := by omega
    have hw : Aside0 (wrap64 (i + 1) = i + 1) := ⟨w64 (by omega) (by omega)⟩
    obtain ⟨l, p', e1, e2, e3, e4, e5, e6⟩ := ih (i + 1) (acc ++ [m]) q (by omega) (by omega) (by rw [List.length_append, List.length_singleton]; omega) (hc.to f5) (by omega) (all_app ha (all1 ⟨f2, f4⟩)) (fun j m' hm' => by
      rcases Nat.lt_or_ge j acc.length with h | h
      · rw [List.getElem?_append_left h] at hm'
        exact hj j m' hm'
      · rw [List.getElem?_append_right h] at hm'
        have hlt := (List.getElem?_eq_some_iff.1 hm').1
        rw [List.length_singleton] at hlt
        have e : j - acc.length = 0 := by omega
        rw [e] at hm'
        simp only [List.getElem?_cons_zero, Option.some.injEq] at hm'
        subst hm'
        rw [f3]
        congr 1
        omega)
    refine ⟨l, p', ?_, e2, e3, e4, by omega, by omega⟩
    refine Ev.step (fun k => by rw [spec_l71Prog.l1]) ?_
    refine Ev.ifp (by omega) ?_
    refine Ev.bnd f1 ?_
    refine Ev.ifp hal ?_
    rw [hw.out]
    exact e1
theorem prog_tells {s : List Int} {p : Int} (hc : CodeOk s p) (hp : p ≤ 999000000) :
    ∃ l p', Ev (fun k => spec_l71Prog.f k s p) (l, p') ∧ progOkB l = true ∧ (∀ x, x ∈ l → 1 ≤ x.f2.length) ∧ 2 ≤ l.length ∧ p ≤ p' ∧ p' ≤ p + 2000 := by
  have end_ : ∀ (L : List Int) (q : Int), 2 ≤ L.length → L.length ≤ 4 → rd L 0 = 0 → (∀ x, x ∈ L → 0 ≤ x ∧ x ≤ 2) → p ≤ q → q ≤ p + 100 → ∃ l p', Ev (fun k => spec_l71Prog.l1 k L 0 s q []) (l, p') ∧ progOkB l = true ∧ (∀ x, x ∈ l → 1 ≤ x.f2.length) ∧ 2 ≤ l.length ∧ p ≤ p' ∧ p' ≤ p + 2000 := by
    intro L q hL2 hL4 h0 hL hq0 hq1
    obtain ⟨l, p', e1, e2, e3, e4, e5, e6⟩ := progLoop_tells hL hL4 (s := s) L.length 0 [] q (by omega) (by omega) (by simp) (hc.to hq0) (by omega) (fun x hx => by simp at hx) (fun j m hm => by simp at hm)
    refine ⟨l, p', e1, ?_, fun x hx => (e3 x hx).2, by omega, by omega, by omega⟩
    unfold progOkB
    have hz : (rd_impl_Method l 0).f0 = 0 := by
      have hg : l[0]? = some l[0] := List.getElem?_eq_getElem (by omega)
      unfold rd_impl_Method
      rw [List.getD_eq_getElem?_getD]
      show (l[0]?.getD z_impl_Method).f0 = 0
      rw [hg]
      show l[0].f0 = 0
      rw [e4 0 _ hg]
      exact h0
    rw [if_pos ⟨by omega, by omega, hz⟩]
    have : l.any (methodBadB l.length) = false := by
      rw [List.any_eq_false]
      intro x hx
      rw [e2, (e3 x hx).1]
      simp
    rw [this]
    rfl
  have loop : ∀ (d : Nat) (x4 : Int) (L : List Int) (q : Int), x4 = d → 1 ≤ L.length → 2 ≤ L.length + d → L.length + d ≤ 4 → rd L 0 = 0 → (∀ x, x ∈ L → 0 ≤ x ∧ x ≤ 2) → p ≤ q → q + d ≤ p + 100 → ∃ l p', Ev (fun k => spec_l71Prog.l0 k L x4 s q) (l, p') ∧ progOkB l = true ∧ (∀ x, x ∈ l → 1 ≤ x.f2.length) ∧ 2 ≤ l.length ∧ p ≤ p' ∧ p' ≤ p + 2000 := by
    intro d
    induction d with
    | zero =>
      intro x4 L q hx h1 h2 h4 h0 hL hq0 hq1
      obtain ⟨l, p', e1, e⟩ := end_ L q (by omega) (by omega) h0 hL hq0 (by omega)
      exact ⟨l, p', Ev.step (fun k => by rw [spec_l71Prog.l0]) (Ev.ifn (by omega) e1), e⟩
    | succ d ih =>
      intro x4 L q hx h1 h2 h4 h0 hL hq0 hq1
      obtain ⟨r, k1, k2, k3⟩ := pick_ev (hc.to hq0) (by omega) 3
      have k4 := k3 (by omega)
      have hw : Aside0 (wrap64 (x4 - 1) = x4 - 1) := ⟨w64 (by omega) (by omega)⟩
      obtain ⟨l, p', e1, e⟩ := ih (x4 - 1) (L ++ [r]) (q + 1) (by omega) (by simp) (by simp; omega) (by simp; omega) (by
        unfold rd at h0 ⊢
        rw [List.getD_eq_getElem?_getD] at h0 ⊢
        rw [List.getElem?_append_left (show (0 : Int).toNat < L.length by show 0 < L.length; omega)]
        exact h0) (all_app hL (all1 ⟨k2, by omega⟩)) (by omega) (by omega)
      refine ⟨l, p', ?_, e⟩
      refine Ev.step (fun k => by rw [spec_l71Prog.l0]) ?_
      refine Ev.ifp (by omega) ?_
      refine Ev.bnd k1 ?_
      refine Ev.ifp (by omega) ?_
      rw [hw.out]
      exact e1
  obtain ⟨r, k1, k2, k3⟩ := pick_ev hc (by omega) 3
  have k4 := k3 (by omega)
  obtain ⟨l, p', e1, e⟩ := loop (1 + r).toNat (1 + r) [0] (p + 1) (by omega) (by simp) (by simp; omega) (by simp; omega) rfl (all1 ⟨by omega, by omega⟩) (by omega) (by omega)
  refine ⟨l, p', ?_, e⟩
  unfold spec_l71Prog.f
  refine Ev.bnd k1 ?_
  rw [w64 (x := 1 + r) (by omega) (by omega)]
  exact e1
end Go.Proofs.Ytcllkemhlhbdgaa.G
namespace Go.Proofs.Ytcllkemhlhbdgaa.G
open Go.RowKit Go.Proofs.YtcllkemhlhbdgaaW.PrintWords Go.Proofs.YtcllkemhlhbdgaaW.PrintLast Go.Proofs.YtcllkemhlhbdgaaW.PrintMore
attribute [local go_sem] max2_int min2_int max_two min_two max_three min_three max_four min_four
set_option linter.unusedVariables false
set_option linter.unusedSimpArgs false
structure DrSt (w0 w W : World) (g : Nat) (s : List Int) (p : Int) : Prop where
  st : IsS151 w0 W g s p
  bel : Below w0.heap.size w0 W
  keep : KeepBut w W g none
  glt : g < w.heap.size
section
variable {w0 w W W1 : World} {g : Nat} {s : List Int} {p p' : Int}
theorem DrSt.new (hI : IsS151 w0 w g s p) (hB : Below w0.heap.size w0 w) : DrSt w0 w w g s p := ⟨hI, hB, KeepBut.refl _ _ _, hI.lt⟩
theorem DrSt.below (h : DrSt w0 w W g s p) (hb : Below W.heap.size W W1) : DrSt w0 w W1 g s p :=
  ⟨h.st.below hb, below_then h.bel h.bel.size hb, h.keep.trans (KeepBut.of_below hb g none) (.inl rfl), h.glt⟩
theorem DrSt.alloc (h : DrSt w0 w W g s p) (o : Obj) : DrSt w0 w (W.alloc o) g s p := h.below (below_alloc (Below.refl _ _) o)
theorem DrSt.drew (h : DrSt w0 w W g s p) : DrSt w0 w W.drew g s p := h.below (below_drew (Below.refl _ _))
theorem DrSt.drewN (h : DrSt w0 w W g s p) (n : Nat) : DrSt w0 w (W.drewN n) g s p := h.below (pw_below_drewN (Below.refl _ _) n)
theorem DrSt.set_ (h : DrSt w0 w W g s p) {b j : Nat} (hb : w.heap.size ≤ b) (u : Value) : DrSt w0 w (W.setCell ⟨b, j, none⟩ u) g s p :=
  ⟨h.st.far (by have := h.glt; show g ≠ b; omega) u, h.bel.setCell (by have := h.st.ge; have := h.glt; show w0.heap.size ≤ b; omega) u,
    ⟨Nat.le_trans h.keep.1 (by rw [World.size_setCell]; exact Nat.le_refl _), fun i hi e1 e2 => (setCell_block (by show i ≠ b; omega)).trans (h.keep.2 i hi e1 e2)⟩, h.glt⟩
theorem DrSt.call (h : DrSt w0 w W g s p) (h1 : IsS151 w0 W1 g s p') (h2 : Below w0.heap.size w0 W1) (h3 : KeepBut W W1 g none) : DrSt w0 w W1 g s p' := ⟨h1, h2, h.keep.trans h3 (.inl rfl), h.glt⟩
end
structure DrawnR (lo hi : Nat) (A : Option Addr) (c : Nat) (l : List S_impl_Method) (w' : World) : Prop where
  cap : l.length ≤ c
  held : ∀ W_ : World, (∀ k, lo ≤ k → k < hi → W_.heap[k]? = w'.heap[k]?) → Kd.C k_impl_Method W_ A l.length l
  few : l.length ≤ 7
  ops : ∀ m, m ∈ l → m.f2.length ≤ 1000
theorem DrawnR.now {lo hi : Nat} {A : Option Addr} {c : Nat} {l : List S_impl_Method} {w : World} (h : DrawnR lo hi A c l w) : Kd.C k_impl_Method w A l.length l := h.held w fun _ _ _ => rfl
theorem DrawnR.move {lo hi lo' hi' : Nat} {A : Option Addr} {c : Nat} {l : List S_impl_Method} {w w1 : World} (h : DrawnR lo hi A c l w) (hl : lo' ≤ lo) (hh : hi ≤ hi') (hm : ∀ k, lo ≤ k → k < hi → w1.heap[k]? = w.heap[k]?) : DrawnR lo' hi' A c l w1 :=
  ⟨h.cap, fun W_ hW => h.held W_ fun k h1 h2 => (hW k (by omega) (by omega)).trans (hm k h1 h2), h.few, h.ops⟩
theorem DrawnR.keep {lo hi g : Nat} {A : Option Addr} {c : Nat} {l : List S_impl_Method} {w w1 : World} (h : DrawnR lo hi A c l w) (hh : hi ≤ w.heap.size) (hg : g < lo) (hk : KeepBut w w1 g none) : DrawnR lo hi A c l w1 :=
  h.move (Nat.le_refl _) (Nat.le_refl _) fun k h1 h2 => hk.2 k (by omega) (by omega) (by simp)
theorem DrawnR.alloc {lo hi : Nat} {A : Option Addr} {c : Nat} {l : List S_impl_Method} {w : World} (h : DrawnR lo hi A c l w) (hh : hi ≤ w.heap.size) (o : Obj) : DrawnR lo hi A c l (w.alloc o) :=
  h.move (Nat.le_refl _) (Nat.le_refl _) fun k _ h2 => Below.heap_alloc _ _ _ (by omega)
theorem DrawnR.set_ {lo hi b j : Nat} {A : Option Addr} {c : Nat} {l : List S_impl_Method} {w : World} (h : DrawnR lo hi A c l w) (hb : b < lo ∨ hi ≤ b) (u : Value) : DrawnR lo hi A c l (w.setCell ⟨b, j, none⟩ u) :=
  h.move (Nat.le_refl _) (Nat.le_refl _) fun k h1 h2 => setCell_block (by show k ≠ b; omega)
theorem progOkB_few {l : List S_impl_Method} (h : progOkB l = true) : l.length ≤ 4 ∧ ∀ m, m ∈ l → m.f2.length ≤ 14 := by
  unfold progOkB at h
  split at h
  · next hc =>
    refine ⟨hc.2.1, fun m hm => ?_⟩
    have h2 : l.any (methodBadB l.length) = false := by simpa using h
    rw [List.any_eq_false] at h2
    have h3 := h2 m hm
    unfold methodBadB at h3
    split at h3
    · next hc2 => exact hc2.2.2.2.2
    · simp at h3
  · cases h
theorem prog_any (g : Nat) (s : List Int) (p : Int) (w0 w : World) (hI : IsS151 w0 w g s p) (hB : Below w0.heap.size w0 w) (hc : CodeOk s p) (hp : p ≤ 900000000) :
    Calls Try.prog 71 #[.pointer (some ⟨g, 0, none⟩)] w fun e w' => ∃ A c l p', e = .returned (.agg #[.slice A l.length c]) ∧ DrawnR w.heap.size w'.heap.size A c l w' ∧ IsS151 w0 w' g s p' ∧ Below w0.heap.size w0 w' ∧ KeepBut w w' g none ∧
      (progOkB l = true ∧ (∀ x, x ∈ l → 1 ≤ x.f2.length) ∧ 2 ≤ l.length ∧ p ≤ p' ∧ p' ≤ p + 2000) := by
  obtain ⟨l, p', h1, h2, h3, h4, h5, h6⟩ := prog_tells hc (by omega)
  obtain ⟨k, hk⟩ := h1.rounds
  have glt := hI.lt
  refine (spec_l71Prog.calls k g s p l p' w0 w hI hB hk).mono ?_
  rintro e w' ⟨v, rfl, hS, hI', hB', hK⟩
  have hR := Kd.S_R hS
  obtain ⟨A, c, rfl, hl, hC⟩ := Kd.R_reads hR
  have hf := progOkB_few h2
  refine ⟨A, c, l, p', rfl, ⟨hl, fun W_ hW => ?_, by have := hf.1; omega, fun m hm => by have := hf.2 m hm; omega⟩, hI', hB', hK, h2, h3, h4, h5, h6⟩
  obtain ⟨A2, c2, e2, _, hC2⟩ := Kd.R_reads (Kd.R_move (Kd.R_bound hR) (w1 := W_) (fun k hk => hW k hk.2.1 hk.2.2.1))
  injection e2 with e2
  subst e2
  exact hC2
end Go.Proofs.Ytcllkemhlhbdgaa.G
namespace Go.Proofs.Ytcllkemhlhbdgaa.G
open Go.RowKit Go.Proofs.YtcllkemhlhbdgaaW.PrintWords Go.Proofs.YtcllkemhlhbdgaaW.PrintLast Go.Proofs.YtcllkemhlhbdgaaW.PrintMore
attribute [local go_sem] max2_int min2_int max_two min_two max_three min_three max_four min_four
set_option linter.unusedVariables false
set_option linter.unusedSimpArgs false
theorem open_any (A0 : Option Addr) (c0 : Nat) (l0 : List Int) (w0 w : World) (hB : Below w0.heap.size w0 w) (hr0 : Kd.C (Kd.int .u8) w0 A0 l0.length l0) (hc0 : l0.length ≤ c0) (hl : l0.length ≤ 1048576) (hb : ∀ x, x ∈ l0 → 0 ≤ x ∧ x ≤ 255) :
    Calls Try.prog 68 #[.slice A0 l0.length c0] w fun e w' => ∃ (g : Nat) (s : List Int), e = .returned (.pointer (some ⟨g, 0, none⟩)) ∧ IsS151 w0 w' g s 0 ∧ Below w0.heap.size w0 w' ∧ Below w.heap.size w w' ∧ CodeOk s 0 := by
  have h : ∃ s, spec_l6Open.f l0 = some (s, 0) ∧ CodeOk s 0 := by
    unfold spec_l6Open.f
    by_cases c : (l0.length : Int) > 2000
    · exact ⟨l0.take 2000, by rw [if_pos c, if_pos (by omega)], by rw [List.length_take]; omega, fun x hx => hb x (List.mem_of_mem_take hx), by omega⟩
    · exact ⟨l0, by rw [if_neg c], hl, hb, by omega⟩
  obtain ⟨s, h1, h2⟩ := h
  exact (spec_l6Open.calls A0 c0 l0 s 0 w0 w hB hr0 hc0 h1).mono fun e w' ⟨g, he, hI, hb0, hb1⟩ => ⟨g, s, he, hI, hb0, hb1, h2⟩
end Go.Proofs.Ytcllkemhlhbdgaa.G
