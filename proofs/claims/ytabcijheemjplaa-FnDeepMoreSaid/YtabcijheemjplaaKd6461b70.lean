import Derived.Test.YtabcijheemjplaaKbe67dffd
import Derived.Test.YtabcijheemjplaaK6f16abf9
import Derived.Test.YtabcijheemjplaaK8843f3aa
import Derived.Test.YtabcijheemjplaaK17d94950
import Derived.Test.YtabcijheemjplaaK47733c20
import Derived.Test.YtabcijheemjplaaK79c2d69a
import Derived.Shelf.Abstract
import Derived.Test.YtabcijheemjplaaKdfd02416
import Derived.Test.YtabcijheemjplaaKe0efafdb
import Derived.Test.YtabcijheemjplaaKa35bc1ac
namespace Go.Proofs.Ytabcijheemjplaa.G
open Go.RowKit Go.Proofs.YtabcijheemjplaaW.PrintWords Go.Proofs.YtabcijheemjplaaW.PrintLast
theorem Qbj {s : List Int} {p : Int} (hc : QbG s p) (hp : p ≤ 1000000000) (n : Int) : ∃ r, Ev (fun k => Qab.f k s p n) (r, p + 1) ∧ 0 ≤ r ∧ (1 ≤ n → r < n) := by
 obtain ⟨r, h1, h2, h3⟩ := pick_tells hc hp n
 exact ⟨r, ⟨1, fun k hk => by obtain ⟨m, rfl⟩ : ∃ m, k = m + 1 := ⟨k - 1, by omega⟩; exact h1 m⟩, h2, h3⟩
theorem QbG.to {s : List Int} {p q : Int} (h : QbG s p) (hq : p ≤ q) : QbG s q := ⟨h.1, h.2.1, by have := h.2.2; omega⟩
def QbQ (n : Nat) (temps : Int) (op : Qac) : Prop := ∀ no, Qb8 n temps no op.f0 op.f1 = true
theorem ops_go {L : List Int} {acc r : List Qac} {i : Nat} (h : i + 1 < L.length) (ha : acc.length ≤ 100) (hL : L.length ≤ 100) (k : Ev (fun k => Qam.l0 k L (acc ++ [⟨rd L i, rd L ((i : Int) + 1)⟩]) ((i + 2 : Nat) : Int)) r) : Ev (fun k => Qam.l0 k L acc (i : Int)) r := by
 refine Ev.step (fun k => by rw [Qam.l0]) ?_
 rw [w64 (x := (i : Int) + 1) (by omega) (by omega), w64 (x := (i : Int) + 2) (by omega) (by omega)]
 exact Ev.ifp (by omega) (Ev.ifp (by omega) (Ev.ifp (by omega) (Ev.ifp (by omega) (Ev.ifp (by omega) k))))
theorem ops_end {L : List Int} {acc : List Qac} {i : Nat} (h : L.length ≤ i + 1) (hL : i ≤ 100) : Ev (fun k => Qam.l0 k L acc (i : Int)) acc := by
 refine Ev.step (fun k => by rw [Qam.l0]) ?_
 rw [w64 (x := (i : Int) + 1) (by omega) (by omega)]
 exact Ev.ifn (by omega) (Ev.now _)
theorem ops2 (a b : Int) : Ev (fun k => Qam.f k [a, b]) [⟨a, b⟩] :=
 ops_go (i := 0) (acc := []) (by simp) (by simp) (by simp) (ops_end (by simp) (by simp))
theorem ops4 (a b c d : Int) : Ev (fun k => Qam.f k [a, b, c, d]) [⟨a, b⟩, ⟨c, d⟩] :=
 ops_go (i := 0) (acc := []) (by simp) (by simp) (by simp) (ops_go (i := 2) (by simp) (by simp) (by simp) (ops_end (by simp) (by simp)))
theorem ops6 (a b c d e f : Int) : Ev (fun k => Qam.f k [a, b, c, d, e, f]) [⟨a, b⟩, ⟨c, d⟩, ⟨e, f⟩] :=
 ops_go (i := 0) (acc := []) (by simp) (by simp) (by simp) (ops_go (i := 2) (by simp) (by simp) (by simp) (ops_go (i := 4) (by simp) (by simp) (by simp) (ops_end (by simp) (by simp))))
theorem ops8 (a b c d e f g h : Int) : Ev (fun k => Qam.f k [a, b, c, d, e, f, g, h]) [⟨a, b⟩, ⟨c, d⟩, ⟨e, f⟩, ⟨g, h⟩] :=
 ops_go (i := 0) (acc := []) (by simp) (by simp) (by simp) (ops_go (i := 2) (by simp) (by simp) (by simp) (ops_go (i := 4) (by simp) (by simp) (by simp) (ops_go (i := 6) (by simp) (by simp) (by simp) (ops_end (by simp) (by simp)))))
section
variable {n : Nat} {temps : Int}
theorem Qcm {k : Int} (h : k = 4 ∨ k = 5 ∨ k = 6 ∨ k = 10 ∨ k = 11 ∨ k = 12 ∨ k = 15 ∨ k = 16 ∨ k = 17 ∨ k = 18) : QbQ n temps ⟨k, 0⟩ := by
 intro no
 rcases h with rfl | rfl | rfl | rfl | rfl | rfl | rfl | rfl | rfl | rfl <;> rfl
theorem fine_num {a : Int} (h0 : 0 ≤ a) (h1 : a < 50) : QbQ n temps ⟨1, a⟩ := by
 intro no
 show decide (0 ≤ a ∧ a ≤ 100 - 1) = true
 exact decide_eq_true ⟨h0, by omega⟩
theorem Qcf {a : Int} (h0 : 0 ≤ a) (h1 : a < temps) : QbQ n temps ⟨2, a⟩ := by
 intro no
 show decide (0 ≤ a ∧ a ≤ temps - 1) = true
 exact decide_eq_true ⟨h0, by omega⟩
theorem fine_set {a : Int} (h0 : 0 ≤ a) (h1 : a < temps) : QbQ n temps ⟨3, a⟩ := by
 intro no
 show decide (0 ≤ a ∧ a ≤ temps - 1) = true
 exact decide_eq_true ⟨h0, by omega⟩
theorem fine_call {a : Int} (h0 : 0 ≤ a) (h1 : a < n) : QbQ n temps ⟨9, a⟩ := by
 intro no
 show decide (0 ≤ a ∧ a ≤ (n : Int) - 1) = true
 exact decide_eq_true ⟨h0, by omega⟩
theorem fine_peek {a : Int} (h0 : 0 ≤ a) (h1 : a < 4) : QbQ n temps ⟨13, a⟩ := by
 intro no
 show decide (0 ≤ a ∧ a ≤ 4 - 1) = true
 exact decide_eq_true ⟨h0, by omega⟩
theorem fine_poke {a : Int} (h0 : 0 ≤ a) (h1 : a < 4) : QbQ n temps ⟨14, a⟩ := by
 intro no
 show decide (0 ≤ a ∧ a ≤ 4 - 1) = true
 exact decide_eq_true ⟨h0, by omega⟩
end
theorem all1 {α : Type} {P : α → Prop} {a : α} (ha : P a) : ∀ x, x ∈ [a] → P x := fun x hx => by rw [List.mem_singleton.1 hx]; exact ha
theorem all_cons {α : Type} {P : α → Prop} {a : α} {l : List α} (ha : P a) (hl : ∀ x, x ∈ l → P x) : ∀ x, x ∈ a :: l → P x := fun x hx => by
 rcases List.mem_cons.1 hx with rfl | hx
 · exact ha
 · exact hl x hx
theorem QbP {α : Type} {P : α → Prop} {a l : List α} (ha : ∀ x, x ∈ a → P x) (hl : ∀ x, x ∈ l → P x) : ∀ x, x ∈ a ++ l → P x := fun x hx => by
 rcases List.mem_append.1 hx with hx | hx
 · exact ha x hx
 · exact hl x hx
theorem end_tells (n : Nat) {temps : Int} (ht : 1 ≤ temps) {s : List Int} {p : Int} (hc : QbG s p) (hp : p ≤ 999999000) : ∃ a b p', Ev (fun k => QaV.f k s p temps) (a, b, p') ∧ QbQ n temps ⟨a, b⟩ ∧ p ≤ p' ∧ p' ≤ p + 2 := by
 obtain ⟨r, h1, h2, h3⟩ := Qbj hc (by omega) 4
 unfold QaV.f
 by_cases r0 : r = 0
 · exact ⟨4, 0, p + 1, Ev.bnd h1 (Ev.ifp r0 (Ev.now _)), Qcm (by omega), by omega, by omega⟩
 · by_cases r1 : r = 1
   · exact ⟨16, 0, p + 1, Ev.bnd h1 (Ev.ifn r0 (Ev.ifp r1 (Ev.now _))), Qcm (by omega), by omega, by omega⟩
   · by_cases r2 : r = 2
     · exact ⟨16, 0, p + 1, Ev.bnd h1 (Ev.ifn r0 (Ev.ifn r1 (Ev.ifp r2 (Ev.now _)))), Qcm (by omega), by omega, by omega⟩
     · obtain ⟨q, k1, k2, k3⟩ := Qbj (hc.to (q := p + 1) (by omega)) (by omega) temps
       exact ⟨3, q, p + 1 + 1, Ev.bnd h1 (Ev.ifn r0 (Ev.ifn r1 (Ev.ifn r2 (Ev.bnd k1 (Ev.now _))))), fine_set k2 (k3 ht), by omega, by omega⟩
theorem args_tells (n : Nat) {temps : Int} (ht : 1 ≤ temps) (N : Int) (hN : N ≤ 2) {s : List Int} : ∀ (d : Nat) (i : Int) (acc : List Qac) (p : Int), 0 ≤ i → N - i ≤ d → acc.length + d ≤ 100 → QbG s p → p + 2 * (d : Int) ≤ 999999900 → (∀ x, x ∈ acc → QbQ n temps x) →
 ∃ l p', Ev (fun k => QaE.l0 k N temps acc i s p) (l, p') ∧ (∀ x, x ∈ l → QbQ n temps x) ∧ l.length ≤ acc.length + d ∧ p ≤ p' ∧ p' ≤ p + 2 * d := by
 intro d
 induction d with
 | zero =>
   intro i acc p hi hd hl hc hp ha
   exact ⟨acc, p, Ev.step (fun k => by rw [QaE.l0]) (Ev.ifn (by omega) (Ev.now _)), ha, by omega, by omega, by omega⟩
 | succ d ih =>
   intro i acc p hi hd hl hc hp ha
   by_cases hlt : i < N
   · obtain ⟨r, h1, h2, h3⟩ := Qbj hc (by omega) 4
     have hal : acc.length < 8796093022208 := by omega
     by_cases r0 : r = 0
     · obtain ⟨l, p', e1, e2, e3, e4, e5⟩ := ih (i + 1) (acc ++ [⟨11, 0⟩]) (p + 1) (by omega) (by omega) (by rw [List.length_append, List.length_singleton]; omega) (hc.to (by omega)) (by omega) (QbP ha (all1 (Qcm (by omega))))
       rw [← w64 (x := i + 1) (by omega) (by omega)] at e1
       simp only [List.length_append, List.length_singleton] at e3
       exact ⟨l, p', Ev.step (fun k => by rw [QaE.l0]) (Ev.ifp hlt (Ev.bnd h1 (Ev.ifp r0 (Ev.ifp hal e1)))), e2, by omega, by omega, by omega⟩
     · by_cases r1 : r = 1
       · obtain ⟨q, k1, k2, k3⟩ := Qbj (hc.to (q := p + 1) (by omega)) (by omega) 10
         obtain ⟨l, p', e1, e2, e3, e4, e5⟩ := ih (i + 1) (acc ++ [⟨1, q⟩]) (p + 1 + 1) (by omega) (by omega) (by rw [List.length_append, List.length_singleton]; omega) (hc.to (by omega)) (by omega) (QbP ha (all1 (fine_num k2 (by have := k3 (by omega); omega))))
         rw [← w64 (x := i + 1) (by omega) (by omega)] at e1
         simp only [List.length_append, List.length_singleton] at e3
         exact ⟨l, p', Ev.step (fun k => by rw [QaE.l0]) (Ev.ifp hlt (Ev.bnd h1 (Ev.ifn r0 (Ev.ifp r1 (Ev.bnd k1 (Ev.ifp hal e1)))))), e2, by omega, by omega, by omega⟩
       · obtain ⟨q, k1, k2, k3⟩ := Qbj (hc.to (q := p + 1) (by omega)) (by omega) temps
         obtain ⟨l, p', e1, e2, e3, e4, e5⟩ := ih (i + 1) (acc ++ [⟨2, q⟩]) (p + 1 + 1) (by omega) (by omega) (by rw [List.length_append, List.length_singleton]; omega) (hc.to (by omega)) (by omega) (QbP ha (all1 (Qcf k2 (k3 ht))))
         rw [← w64 (x := i + 1) (by omega) (by omega)] at e1
         simp only [List.length_append, List.length_singleton] at e3
         exact ⟨l, p', Ev.step (fun k => by rw [QaE.l0]) (Ev.ifp hlt (Ev.bnd h1 (Ev.ifn r0 (Ev.ifn r1 (Ev.bnd k1 (Ev.ifp hal e1)))))), e2, by omega, by omega, by omega⟩
   · exact ⟨acc, p, Ev.step (fun k => by rw [QaE.l0]) (Ev.ifn hlt (Ev.now _)), ha, by omega, by omega, by omega⟩
theorem look0_tells (n : Nat) {temps : Int} {s : List Int} {p : Int} (hc : QbG s p) (hp : p ≤ 999999000) (l : List Qac) (hl : l.length ≤ 10) (ha : ∀ x, x ∈ l → QbQ n temps x) :
 ∃ l' p', Ev (fun k => Qau.j0 k l s p) (l', p') ∧ (∀ x, x ∈ l' → QbQ n temps x) ∧ l'.length ≤ 11 ∧ p ≤ p' ∧ p' ≤ p + 2 := by
 obtain ⟨r, h1, h2, h3⟩ := Qbj hc (by omega) 6
 have hal : l.length < 8796093022208 := by omega
 have len : ∀ x : Qac, (l ++ [x]).length ≤ 11 := fun x => by simp; omega
 by_cases r0 : r = 0
 · exact ⟨_, p + 1, Ev.step (fun k => by rw [Qau.j0]) (Ev.bnd h1 (Ev.ifp r0 (Ev.ifp hal (Ev.now _)))), QbP ha (all1 (Qcm (by omega))), len _, by omega, by omega⟩
 · have j1 : ∀ b : Bool, (b = true → r = 1 ∨ r = 2) → ∃ l' p', Ev (fun k => Qau.j1 k l r b s (p + 1)) (l', p') ∧ (∀ x, x ∈ l' → QbQ n temps x) ∧ l'.length ≤ 11 ∧ p ≤ p' ∧ p' ≤ p + 2 := by
    intro b _
    cases b with
    | true =>
      obtain ⟨q, k1, k2, k3⟩ := Qbj (hc.to (q := p + 1) (by omega)) (by omega) 4
      exact ⟨_, p + 1 + 1, Ev.step (fun k => by rw [Qau.j1]) (Ev.ifp rfl (Ev.bnd k1 (Ev.ifp hal (Ev.now _)))), QbP ha (all1 (fine_peek k2 (k3 (by omega)))), len _, by omega, by omega⟩
    | false =>
      by_cases r3 : r = 3
      · exact ⟨_, p + 1, Ev.step (fun k => by rw [Qau.j1]) (Ev.ifn (by simp) (Ev.ifp r3 (Ev.ifp hal (Ev.now _)))), QbP ha (all1 (Qcm (by omega))), len _, by omega, by omega⟩
      · by_cases r4 : r = 4
        · exact ⟨_, p + 1, Ev.step (fun k => by rw [Qau.j1]) (Ev.ifn (by simp) (Ev.ifn r3 (Ev.ifp r4 (Ev.ifp hal (Ev.now _))))), QbP ha (all1 (Qcm (by omega))), len _, by omega, by omega⟩
        · exact ⟨_, p + 1, Ev.step (fun k => by rw [Qau.j1]) (Ev.ifn (by simp) (Ev.ifn r3 (Ev.ifn r4 (Ev.now _)))), ha, by omega, by omega, by omega⟩
   by_cases r1 : r = 1
   · obtain ⟨l', p', e1, e⟩ := j1 (r == 1) (by simp; omega)
     exact ⟨l', p', Ev.step (fun k => by rw [Qau.j0]) (Ev.bnd h1 (Ev.ifn r0 (Ev.ifp r1 e1))), e⟩
   · obtain ⟨l', p', e1, e⟩ := j1 (r == 2) (by simp; omega)
     exact ⟨l', p', Ev.step (fun k => by rw [Qau.j0]) (Ev.bnd h1 (Ev.ifn r0 (Ev.ifn r1 e1))), e⟩
theorem look_tells (n : Nat) {temps : Int} (ht : 1 ≤ temps) {s : List Int} {p : Int} (hc : QbG s p) (hp : p ≤ 999998000) :
 ∃ l' p', Ev (fun k => Qau.f k s p temps) (l', p') ∧ (∀ x, x ∈ l' → QbQ n temps x) ∧ l'.length ≤ 11 ∧ p ≤ p' ∧ p' ≤ p + 4 := by
 obtain ⟨r, h1, h2, h3⟩ := Qbj hc (by omega) 5
 unfold Qau.f
 by_cases r0 : r = 0
 · obtain ⟨q, k1, k2, k3⟩ := Qbj (hc.to (q := p + 1) (by omega)) (by omega) temps
   obtain ⟨l', p', e1, e2, e3, e4, e5⟩ := look0_tells n (temps := temps) (hc.to (q := p + 1 + 1) (by omega)) (by omega) [⟨2, q⟩] (by simp) (all1 (Qcf k2 (k3 ht)))
   exact ⟨l', p', Ev.bnd (ops2 11 0) (Ev.bnd h1 (Ev.ifp r0 (Ev.bnd k1 (Ev.bnd (ops2 2 q) e1)))), e2, e3, by omega, by omega⟩
 · have two : ∀ x : Qac, x ∈ [(⟨11, 0⟩ : Qac), ⟨12, 0⟩] → QbQ n temps x := all_cons (Qcm (by omega)) (all1 (Qcm (by omega)))
   obtain ⟨l', p', e1, e2, e3, e4, e5⟩ := look0_tells n (temps := temps) (hc.to (q := p + 1) (by omega)) (by omega) [⟨11, 0⟩, ⟨12, 0⟩] (by simp) two
   by_cases r1 : r = 1
   · exact ⟨l', p', Ev.bnd (ops2 11 0) (Ev.bnd h1 (Ev.ifn r0 (Ev.ifp r1 (Ev.bnd (ops4 11 0 12 0) e1)))), e2, e3, by omega, by omega⟩
   · by_cases r2 : r = 2
     · exact ⟨l', p', Ev.bnd (ops2 11 0) (Ev.bnd h1 (Ev.ifn r0 (Ev.ifn r1 (Ev.ifp r2 (Ev.bnd (ops4 11 0 12 0) e1))))), e2, e3, by omega, by omega⟩
     · obtain ⟨l', p', e1, e2, e3, e4, e5⟩ := look0_tells n (temps := temps) (hc.to (q := p + 1) (by omega)) (by omega) [⟨11, 0⟩] (by simp) (all1 (Qcm (by omega)))
       exact ⟨l', p', Ev.bnd (ops2 11 0) (Ev.bnd h1 (Ev.ifn r0 (Ev.ifn r1 (Ev.ifn r2 e1)))), e2, e3, by omega, by omega⟩
theorem part_tells {L : List Int} (hL : ∀ x, x ∈ L → 0 ≤ x ∧ x ≤ 2) (hn0 : 1 ≤ L.length) (hn : L.length ≤ 100) {temps : Int} (ht : 1 ≤ temps) {s : List Int} {p : Int} (hc : QbG s p) (hp : p ≤ 999990000) :
 ∃ l p', Ev (fun k => Qay.f k s p L temps) (l, p') ∧ (∀ x, x ∈ l → QbQ L.length temps x) ∧ l.length ≤ 30 ∧ p ≤ p' ∧ p' ≤ p + 30 := by
 obtain ⟨r, h1, h2, h3⟩ := Qbj hc (by omega) 10
 have h3' := h3 (by omega)
 clear h3
 have c1 : QbG s (p + 1) := hc.to (by omega)
 have c2 : QbG s (p + 1 + 1) := hc.to (by omega)
 have c3 : QbG s (p + 1 + 1 + 1) := hc.to (by omega)
 have j1 : ∀ b : Bool, b = (r == 4) ∨ b = (r == 5) → ¬ r = 0 → ¬ r = 1 → ¬ r = 2 → ¬ r = 3 → ∃ l p', Ev (fun k => Qay.j1 k temps r b s (p + 1)) (l, p') ∧ (∀ x, x ∈ l → QbQ L.length temps x) ∧ l.length ≤ 30 ∧ p ≤ p' ∧ p' ≤ p + 30 := by
  intro b _ _ _ _ _
  cases b with
  | true =>
    obtain ⟨l, q, e1, e2, e3, e4, e5⟩ := look_tells L.length ht c1 (by omega)
    obtain ⟨a, b, q', f1, f2, f3, f4⟩ := end_tells L.length ht (hc.to (q := q) (by omega)) (by omega)
    have hal : l.length < 8796093022208 := by omega
    exact ⟨_, q', Ev.step (fun k => by rw [Qay.j1]) (Ev.ifp rfl (Ev.bnd e1 (Ev.bnd f1 (Ev.ifp hal (Ev.now _))))), QbP e2 (all1 f2), by simp; omega, by omega, by omega⟩
  | false =>
    by_cases r6 : r = 6
    · obtain ⟨q, k1, k2, k3⟩ := Qbj c1 (by omega) temps
      refine ⟨[⟨11, 0⟩, ⟨3, q⟩], p + 1 + 1, ?_, all_cons (Qcm (by omega)) (all1 (fine_set k2 (k3 ht))), by simp, by omega, by omega⟩
      refine Ev.step (fun k => by rw [Qay.j1]) ?_
      refine Ev.ifn (by simp) ?_
      refine Ev.ifp r6 ?_
      refine Ev.bnd k1 ?_
      refine Ev.bnd (ops4 11 0 3 q) ?_
      exact Ev.now _
    · by_cases r7 : r = 7
      · obtain ⟨t, k1, k2, k3⟩ := Qbj c1 (by omega) 2
        by_cases t0 : t = 0
        · obtain ⟨u, l1, l2, l3⟩ := Qbj c2 (by omega) 9
          obtain ⟨v, m1, m2, m3⟩ := Qbj c3 (by omega) 4
          refine ⟨[⟨11, 0⟩, ⟨12, 0⟩, ⟨1, u⟩, ⟨14, v⟩], p + 1 + 1 + 1 + 1, ?_, all_cons (Qcm (by omega)) (all_cons (Qcm (by omega)) (all_cons (fine_num l2 (by have := l3 (by omega); omega)) (all1 (fine_poke m2 (m3 (by omega)))))), by simp, by omega, by omega⟩
          refine Ev.step (fun k => by rw [Qay.j1]) ?_
          refine Ev.ifn (by simp) ?_
          refine Ev.ifn r6 ?_
          refine Ev.ifp r7 ?_
          refine Ev.bnd k1 ?_
          refine Ev.ifp t0 ?_
          refine Ev.bnd l1 ?_
          refine Ev.bnd m1 ?_
          refine Ev.bnd (ops8 11 0 12 0 1 u 14 v) ?_
          exact Ev.now _
        · obtain ⟨u, l1, l2, l3⟩ := Qbj c2 (by omega) temps
          obtain ⟨v, m1, m2, m3⟩ := Qbj c3 (by omega) temps
          refine ⟨[⟨2, u⟩, ⟨2, v⟩, ⟨6, 0⟩, ⟨16, 0⟩], p + 1 + 1 + 1 + 1, ?_, all_cons (Qcf l2 (l3 ht)) (all_cons (Qcf m2 (m3 ht)) (all_cons (Qcm (by omega)) (all1 (Qcm (by omega))))), by simp, by omega, by omega⟩
          refine Ev.step (fun k => by rw [Qay.j1]) ?_
          refine Ev.ifn (by simp) ?_
          refine Ev.ifn r6 ?_
          refine Ev.ifp r7 ?_
          refine Ev.bnd k1 ?_
          refine Ev.ifn t0 ?_
          refine Ev.bnd l1 ?_
          refine Ev.bnd m1 ?_
          refine Ev.bnd (ops8 2 u 2 v 6 0 16 0) ?_
          exact Ev.now _
      · by_cases r8 : r = 8
        · obtain ⟨u, l1, l2, l3⟩ := Qbj c1 (by omega) temps
          obtain ⟨v, m1, m2, m3⟩ := Qbj c2 (by omega) 9
          refine ⟨[⟨2, u⟩, ⟨1, v⟩, ⟨15, 0⟩] ++ [⟨4, 0⟩], p + 1 + 1 + 1, ?_, QbP (all_cons (Qcf l2 (l3 ht)) (all_cons (fine_num m2 (by have := m3 (by omega); omega)) (all1 (Qcm (by omega))))) (all1 (Qcm (by omega))), by simp, by omega, by omega⟩
          refine Ev.step (fun k => by rw [Qay.j1]) ?_
          refine Ev.ifn (by simp) ?_
          refine Ev.ifn r6 ?_
          refine Ev.ifn r7 ?_
          refine Ev.ifp r8 ?_
          refine Ev.bnd l1 ?_
          refine Ev.bnd m1 ?_
          refine Ev.bnd (ops6 2 u 1 v 15 0) ?_
          refine Ev.ifp (by simp only [List.length_cons, List.length_nil]; decide) ?_
          exact Ev.now _
        · obtain ⟨u, l1, l2, l3⟩ := Qbj c1 (by omega) 50
          obtain ⟨v, m1, m2, m3⟩ := Qbj c2 (by omega) 50
          refine ⟨[⟨1, u⟩, ⟨1, v⟩, ⟨5, 0⟩, ⟨16, 0⟩], p + 1 + 1 + 1, ?_, all_cons (fine_num l2 (l3 (by omega))) (all_cons (fine_num m2 (m3 (by omega))) (all_cons (Qcm (by omega)) (all1 (Qcm (by omega))))), by simp, by omega, by omega⟩
          refine Ev.step (fun k => by rw [Qay.j1]) ?_
          refine Ev.ifn (by simp) ?_
          refine Ev.ifn r6 ?_
          refine Ev.ifn r7 ?_
          refine Ev.ifn r8 ?_
          refine Ev.bnd l1 ?_
          refine Ev.bnd m1 ?_
          refine Ev.bnd (ops8 1 u 1 v 5 0 16 0) ?_
          exact Ev.now _
 have j0 : ∀ b : Bool, (b = true ∨ (¬ r = 0 ∧ ¬ r = 1 ∧ ¬ r = 2 ∧ ¬ r = 3)) → ∃ l p', Ev (fun k => Qay.j0 k L temps r b s (p + 1)) (l, p') ∧ (∀ x, x ∈ l → QbQ L.length temps x) ∧ l.length ≤ 30 ∧ p ≤ p' ∧ p' ≤ p + 30 := by
  intro b hb
  cases b with
  | true =>
    obtain ⟨q, k1, k2, k3⟩ := Qbj c1 (by omega) (L.length : Int)
    have k4 := k3 (by omega)
    have hq : 0 ≤ rd L q ∧ rd L q ≤ 2 := by
     unfold rd
     rw [List.getD_eq_getElem?_getD, List.getElem?_eq_getElem (by omega : q.toNat < L.length)]
     exact hL _ (List.getElem_mem _)
    obtain ⟨l, q1, e1, e2, e3, e4, e5⟩ := args_tells L.length ht (rd L q) hq.2 2 0 [] (p + 1 + 1) (by omega) (by omega) (by simp) c2 (by omega) (fun x hx => by simp at hx)
    obtain ⟨a, b, q', f1, f2, f3, f4⟩ := end_tells L.length ht (hc.to (q := q1) (by omega)) (by omega)
    simp only [List.length_nil] at e3
    have hal : l.length < 8796093022208 := by omega
    have hal2 : (l ++ [(⟨9, q⟩ : Qac)]).length < 8796093022208 := by rw [List.length_append, List.length_singleton]; omega
    exact ⟨_, q', Ev.step (fun k => by rw [Qay.j0]) (Ev.ifp rfl (Ev.bnd k1 (Ev.ifp k2 (Ev.ifp k4 (Ev.bnd e1 (Ev.ifp hal (Ev.bindc rfl (Ev.bnd f1 (Ev.ifp hal2 (Ev.now _)))))))))), QbP (QbP e2 (all1 (fine_call k2 k4))) (all1 f2), by simp; omega, by omega, by omega⟩
  | false =>
    obtain ⟨r0, r1, r2, r3⟩ := hb.resolve_left (by simp)
    by_cases r4 : r = 4
    · obtain ⟨l, p', e⟩ := j1 (r == 4) (.inl rfl) r0 r1 r2 r3
      exact ⟨l, p', Ev.step (fun k => by rw [Qay.j0]) (Ev.ifn (by simp) (Ev.ifp r4 e.1)), e.2⟩
    · obtain ⟨l, p', e⟩ := j1 (r == 5) (.inr rfl) r0 r1 r2 r3
      exact ⟨l, p', Ev.step (fun k => by rw [Qay.j0]) (Ev.ifn (by simp) (Ev.ifn r4 e.1)), e.2⟩
 unfold Qay.f
 by_cases r0 : r = 0
 · obtain ⟨q, k1, k2, k3⟩ := Qbj c1 (by omega) 20
   obtain ⟨a, b, q', f1, f2, f3, f4⟩ := end_tells L.length ht c2 (by omega)
   have hal : ([(⟨1, q⟩ : Qac)]).length < 8796093022208 := by rw [List.length_singleton]; decide
   exact ⟨_, q', Ev.bnd h1 (Ev.ifp r0 (Ev.bnd k1 (Ev.bnd (ops2 1 q) (Ev.bnd f1 (Ev.ifp hal (Ev.now _)))))), QbP (all1 (fine_num k2 (by have := k3 (by omega); omega))) (all1 f2), by simp, by omega, by omega⟩
 · by_cases r1 : r = 1
   · obtain ⟨l, p', e⟩ := j0 (r == 1) (.inl (by simp [r1]))
     exact ⟨l, p', Ev.bnd h1 (Ev.ifn r0 (Ev.ifp r1 e.1)), e.2⟩
   · by_cases r2 : r = 2
     · obtain ⟨l, p', e⟩ := j0 (r == 2) (.inl (by simp [r2]))
       exact ⟨l, p', Ev.bnd h1 (Ev.ifn r0 (Ev.ifn r1 (Ev.ifp r2 e.1))), e.2⟩
     · obtain ⟨l, p', e⟩ := j0 (r == 3) (by
        by_cases r3 : r = 3
        · exact .inl (by simp [r3])
        · exact .inr ⟨r0, r1, r2, r3⟩)
       exact ⟨l, p', Ev.bnd h1 (Ev.ifn r0 (Ev.ifn r1 (Ev.ifn r2 e.1))), e.2⟩
def OpLate (n : Nat) (temps : Int) (op : Qac) : Prop := ∀ no, 1 ≤ no → Qb8 n temps no op.f0 op.f1 = true
theorem QbQ.late {n : Nat} {temps : Int} {op : Qac} (h : QbQ n temps op) : OpLate n temps op := fun no _ => h no
theorem late_zero (n : Nat) (temps : Int) : OpLate n temps ⟨8, 0⟩ := fun no h => by
 show decide (0 ≤ 0 ∧ 0 ≤ (no : Int) - 1) = true
 exact decide_eq_true ⟨by omega, by omega⟩
theorem fin_tells (n : Nat) {args temps : Int} (ha : 0 ≤ args ∧ args ≤ 2 ∧ args ≤ temps) (ht : 1 ≤ temps ∧ temps ≤ 4) {s : List Int} {p : Int} (hc : QbG s p) (hp : p ≤ 999999000) (l : List Qac) (hl : l.length ≤ 12)
 (hop : ∀ x, x ∈ l → Qb8 n temps (l.length + 2) x.f0 x.f1 = true) :
 ∃ m p', Ev (fun k => Qag.j2 k s p args temps l) (m.f0, m.f1, m.f2, p') ∧ QaZ n m = false ∧ m.f0 = args ∧ 1 ≤ m.f2.length ∧ p ≤ p' ∧ p' ≤ p + 2 := by
 obtain ⟨r, h1, h2, h3⟩ := Qbj hc (by omega) 3
 have hal : l.length < 8796093022208 := by omega
 have good : ∀ x : Qac, QbQ n temps x → QaZ n ⟨args, temps, (l ++ [x]) ++ [⟨10, 0⟩]⟩ = false := by
  intro x hx
  unfold QaZ
  have hlen : ((l ++ [x]) ++ [(⟨10, 0⟩ : Qac)]).length = l.length + 2 := by simp
  rw [if_pos ⟨ha.1, ha.2.1, ha.2.2, ht.2, by rw [hlen]; omega⟩, List.any_eq_false]
  intro y hy
  show ¬ (!Qb8 n temps ((l ++ [x]) ++ [(⟨10, 0⟩ : Qac)]).length y.f0 y.f1) = true
  rw [hlen]
  rcases List.mem_append.1 hy with hy | hy
  · rcases List.mem_append.1 hy with hy | hy
    · rw [hop y hy]; simp
    · rw [List.mem_singleton.1 hy, hx (l.length + 2)]; simp
  · rw [List.mem_singleton.1 hy, (Qcm (n := n) (temps := temps) (k := 10) (by omega)) (l.length + 2)]; simp
 by_cases r0 : r = 0
 · refine ⟨⟨args, temps, (l ++ [⟨11, 0⟩]) ++ [⟨10, 0⟩]⟩, p + 1, ?_, good _ (Qcm (by omega)), rfl, by simp, by omega, by omega⟩
   refine Ev.step (fun k => by rw [Qag.j2]) ?_
   refine Ev.bnd h1 ?_
   refine Ev.ifp r0 ?_
   refine Ev.ifp hal ?_
   refine Ev.bindc rfl ?_
   refine Ev.ifp (by rw [List.length_append, List.length_singleton]; omega) ?_
   exact Ev.now _
 · obtain ⟨q, k1, k2, k3⟩ := Qbj (hc.to (q := p + 1) (by omega)) (by omega) temps
   refine ⟨⟨args, temps, (l ++ [⟨2, q⟩]) ++ [⟨10, 0⟩]⟩, p + 1 + 1, ?_, good _ (Qcf k2 (k3 ht.1)), rfl, by simp, by omega, by omega⟩
   refine Ev.step (fun k => by rw [Qag.j2]) ?_
   refine Ev.bnd h1 ?_
   refine Ev.ifn r0 ?_
   refine Ev.bnd k1 ?_
   refine Ev.ifp hal ?_
   refine Ev.bindc rfl ?_
   refine Ev.ifp (by rw [List.length_append, List.length_singleton]; omega) ?_
   exact Ev.now _
theorem rd_Op_app {l l' : List Qac} {i : Int} (h : i.toNat < l.length) : Qah (l ++ l') i = Qah l i := by
 unfold Qah
 rw [List.getD_eq_getElem?_getD, List.getD_eq_getElem?_getD, List.getElem?_append_left h]
def Skip (l : List Qac) (k : Int) : Prop := k = -1 ∨ (0 ≤ k ∧ k < (l.length : Int) ∧ Qah l k = ⟨8, 0⟩)
theorem Skip.app {l : List Qac} {k : Int} (h : Skip l k) (l' : List Qac) : Skip (l ++ l') k := by
 rcases h with h | ⟨h0, h1, h2⟩
 · exact .inl h
 · exact .inr ⟨h0, by rw [List.length_append]; omega, by rw [rd_Op_app (by omega)]; exact h2⟩
set_option maxHeartbeats 1000000 in
theorem methodLoop_tells {L : List Int} (hL : ∀ x, x ∈ L → 0 ≤ x ∧ x ≤ 2) (hn0 : 1 ≤ L.length) (hn : L.length ≤ 100) {args temps : Int} (ha : 0 ≤ args ∧ args ≤ 2 ∧ args ≤ temps) (ht : 1 ≤ temps ∧ temps ≤ 4) {s : List Int} :
 ∀ (d : Nat) (i k : Int) (l : List Qac) (p : Int), 0 ≤ i → i + d = 4 → QbG s p → p + 40 * (d : Int) ≤ 999980000 → l.length ≤ 12 → Skip l k → (∀ x, x ∈ l → OpLate L.length temps x) →
 ∃ m p', Ev (fun n => Qag.l0 n L k i s p args temps l) (m.f0, m.f1, m.f2, p') ∧ QaZ L.length m = false ∧ m.f0 = args ∧ 1 ≤ m.f2.length ∧ p ≤ p' ∧ p' ≤ p + 40 * (d : Int) + 2 := by
 intro d
 induction d with
 | zero =>
   intro i k l p hi hd hc hp hl hk hop
   rcases hk with rfl | ⟨k0, k1, k2⟩
   · obtain ⟨m, p', e1, e2, e3, e4, e5, e6⟩ := fin_tells L.length ha ht hc (by omega) l hl (fun x hx => hop x hx _ (by omega))
     refine ⟨m, p', ?_, e2, e3, e4, e5, by omega⟩
     refine Ev.step (fun n => by rw [Qag.l0]) ?_
     refine Ev.ifn (by omega) ?_
     refine Ev.ifn (by omega) ?_
     exact e1
   · obtain ⟨m, p', e1, e2, e3, e4, e5, e6⟩ := fin_tells L.length ha ht hc (by omega) (l.set k.toNat ⟨(Qah l k).f0, (l.length : Int)⟩) (by rw [List.length_set]; exact hl) (fun x hx => by
      rw [List.length_set]
      rcases List.mem_or_eq_of_mem_set hx with hx | hx
      · exact hop x hx _ (by omega)
      · rw [hx, k2]
        show decide (0 ≤ (l.length : Int) ∧ (l.length : Int) ≤ ((l.length + 2 : Nat) : Int) - 1) = true
        exact decide_eq_true ⟨by omega, by omega⟩)
     refine ⟨m, p', ?_, e2, e3, e4, e5, by omega⟩
     refine Ev.step (fun n => by rw [Qag.l0]) ?_
     refine Ev.ifn (by omega) ?_
     refine Ev.ifp k0 ?_
     refine Ev.ifp k0 ?_
     refine Ev.ifp k1 ?_
     exact e1
 | succ d ih =>
   intro i k l p hi hd hc hp hl hk hop
   have hw : Aside0 (wrap64 (i + 1) = i + 1) := ⟨w64 (by omega) (by omega)⟩
   obtain ⟨part, q, f1, f2, f3, f4, f5⟩ := part_tells hL hn0 hn ht.1 hc (by omega)
   have hpl : (part.length : Int) ≤ 30 := by omega
   have hll : (l.length : Int) ≤ 12 := by omega
   have hs1 : Aside0 (wrap64 ((l.length : Int) + (part.length : Int)) = (l.length : Int) + (part.length : Int)) := ⟨w64 (by omega) (by omega)⟩
   have take : ∀ (k' : Int) (l' : List Qac) (p1 : Int), p ≤ p1 → p1 ≤ p + 40 → l'.length ≤ 12 → Skip l' k' → (∀ x, x ∈ l' → OpLate L.length temps x) → ∃ m p', (Ev (fun n => if wrap64 ((l'.length : Int) + (part.length : Int)) ≤ 12 then (if l'.length + part.length < 8796093022208 then (Qag.l0 n L k' (wrap64 (i + 1)) s p1 args temps (l' ++ part)) else none) else (Qag.l0 n L k' (wrap64 (i + 1)) s p1 args temps l')) (m.f0, m.f1, m.f2, p')) ∧
    QaZ L.length m = false ∧ m.f0 = args ∧ 1 ≤ m.f2.length ∧ p ≤ p' ∧ p' ≤ p + 40 * ((d + 1 : Nat) : Int) + 2 := by
    intro k' l' p1 hp0 hp1 hl' hk' hop'
    have hs2 : Aside0 (wrap64 ((l'.length : Int) + (part.length : Int)) = (l'.length : Int) + (part.length : Int)) := ⟨w64 (by omega) (by omega)⟩
    rw [hs2.out, hw.out]
    by_cases c : (l'.length : Int) + (part.length : Int) ≤ 12
    · obtain ⟨m, p', e1, e2, e3, e4, e5, e6⟩ := ih (i + 1) k' (l' ++ part) p1 (by omega) (by omega) (hc.to hp0) (by omega) (by rw [List.length_append]; omega) (hk'.app part) (QbP hop' (fun x hx => (f2 x hx).late))
      exact ⟨m, p', Ev.ifp c (Ev.ifp (by omega) e1), e2, e3, e4, by omega, by omega⟩
    · obtain ⟨m, p', e1, e2, e3, e4, e5, e6⟩ := ih (i + 1) k' l' p1 (by omega) (by omega) (hc.to hp0) (by omega) hl' hk' hop'
      exact ⟨m, p', Ev.ifn c e1, e2, e3, e4, by omega, by omega⟩
   have j1 : ∀ (b : Bool) (p1 : Int), p ≤ p1 → p1 ≤ p + 35 → (b = true → k = -1 ∧ (l.length : Int) + (part.length : Int) ≤ 10) → ∃ m p', Ev (fun n => Qag.j1 n L k i part b s p1 args temps l) (m.f0, m.f1, m.f2, p') ∧ QaZ L.length m = false ∧ m.f0 = args ∧ 1 ≤ m.f2.length ∧ p ≤ p' ∧ p' ≤ p + 40 * ((d + 1 : Nat) : Int) + 2 := by
    intro b p1 hp0 hp1 hb
    cases b with
    | false =>
      obtain ⟨m, p', e1, e⟩ := take k l p1 hp0 (by omega) hl hk hop
      exact ⟨m, p', Ev.step (fun n => by rw [Qag.j1]) (Ev.ifn (by simp) e1), e⟩
    | true =>
      obtain ⟨rfl, hb2⟩ := hb rfl
      obtain ⟨t, k1, k2, k3⟩ := Qbj (hc.to hp0) (by omega) temps
      have hl2 : (l ++ [(⟨2, t⟩ : Qac), ⟨8, 0⟩]).length = l.length + 2 := by simp
      have hw2 : Aside0 (wrap64 ((l.length : Int) + 1) = (l.length : Int) + 1) := ⟨w64 (by omega) (by omega)⟩
      obtain ⟨m, p', e1, e⟩ := take ((l.length : Int) + 1) (l ++ [⟨2, t⟩, ⟨8, 0⟩]) (p1 + 1) (by omega) (by omega) (by rw [hl2]; omega) (.inr ⟨by omega, by rw [hl2]; omega, by
       unfold Qah
       rw [List.getD_eq_getElem?_getD, show ((l.length : Int) + 1).toNat = l.length + 1 from by omega, List.getElem?_append_right (by omega), show l.length + 1 - l.length = 1 from by omega]
       rfl⟩) (QbP hop (all_cons (Qcf k2 (k3 ht.1)).late (all1 (late_zero _ _))))
      refine ⟨m, p', ?_, e⟩
      refine Ev.step (fun n => by rw [Qag.j1]) ?_
      refine Ev.ifp rfl ?_
      refine Ev.bnd k1 ?_
      refine Ev.bindc rfl ?_
      refine Ev.ifp (by simp; omega) ?_
      refine Ev.bindc rfl ?_
      rw [hw2.out]
      exact e1
   by_cases c0 : k < 0
   · obtain ⟨r, h1, h2, h3⟩ := Qbj (hc.to f4) (by omega) 6
     have hk1 : k = -1 := by
      rcases hk with hk | hk
      · exact hk
      · omega
     by_cases r0 : r = 0
     · obtain ⟨m, p', e1, e⟩ := j1 (decide (wrap64 ((l.length : Int) + (part.length : Int)) ≤ 10)) (q + 1) (by omega) (by omega) (fun h => ⟨hk1, by rw [hs1.out] at h; exact of_decide_eq_true h⟩)
       exact ⟨m, p', Ev.step (fun n => by rw [Qag.l0]) (Ev.ifp (by omega) (Ev.bnd f1 (Ev.ifp c0 (Ev.bnd h1 (Ev.ifp r0 e1))))), e⟩
     · obtain ⟨m, p', e1, e⟩ := j1 false (q + 1) (by omega) (by omega) (fun h => by cases h)
       exact ⟨m, p', Ev.step (fun n => by rw [Qag.l0]) (Ev.ifp (by omega) (Ev.bnd f1 (Ev.ifp c0 (Ev.bnd h1 (Ev.ifn r0 e1))))), e⟩
   · obtain ⟨m, p', e1, e⟩ := j1 false q (by omega) (by omega) (fun h => by cases h)
     exact ⟨m, p', Ev.step (fun n => by rw [Qag.l0]) (Ev.ifp (by omega) (Ev.bnd f1 (Ev.ifn c0 e1))), e⟩
theorem method_tells {L : List Int} (hL : ∀ x, x ∈ L → 0 ≤ x ∧ x ≤ 2) (hn : L.length ≤ 100) {s : List Int} {p a : Int} (hc : QbG s p) (hp : p ≤ 999900000) (h0 : 0 ≤ a) (h1 : a < L.length) :
 ∃ m p', Ev (fun k => Qag.f k s p L a) (m.f0, m.f1, m.f2, p') ∧ QaZ L.length m = false ∧ m.f0 = rd L a ∧ 1 ≤ m.f2.length ∧ p ≤ p' ∧ p' ≤ p + 200 := by
 obtain ⟨r, k1, k2, k3⟩ := Qbj hc (by omega) 3
 have k4 := k3 (by omega)
 have hr : 0 ≤ rd L a ∧ rd L a ≤ 2 := by
  unfold rd
  rw [List.getD_eq_getElem?_getD, List.getElem?_eq_getElem (by omega : a.toNat < L.length)]
  exact hL _ (List.getElem_mem _)
 have hw : Aside0 (wrap64 (1 + r) = 1 + r) := ⟨w64 (by omega) (by omega)⟩
 have hm : rd L a ≤ mx (rd L a) (1 + r) ∧ 1 ≤ mx (rd L a) (1 + r) ∧ mx (rd L a) (1 + r) ≤ 4 := by unfold mx; split <;> omega
 obtain ⟨m, p', e1, e2, e3, e4, e5, e6⟩ := methodLoop_tells hL (by omega) hn (args := rd L a) (temps := mx (rd L a) (1 + r)) ⟨hr.1, hr.2, hm.1⟩ ⟨hm.2.1, hm.2.2⟩ (s := s) 4 0 (-1) [] (p + 1) (by omega) (by omega) (hc.to (by omega)) (by omega) (by simp) (.inl rfl) (fun x hx => by simp at hx)
 refine ⟨m, p', ?_, e2, e3, e4, by omega, by omega⟩
 unfold Qag.f
 refine Ev.ifp h0 ?_
 refine Ev.ifp h1 ?_
 refine Ev.bnd k1 ?_
 rw [hw.out]
 exact e1
theorem progLoop_tells {L : List Int} (hL : ∀ x, x ∈ L → 0 ≤ x ∧ x ≤ 2) (hn : L.length ≤ 4) {s : List Int} : ∀ (d : Nat) (i : Int) (acc : List Qae) (p : Int), 0 ≤ i → i + d = L.length → (acc.length : Int) = i → QbG s p → p + 200 * (d : Int) ≤ 999890000 →
 (∀ x, x ∈ acc → QaZ L.length x = false ∧ 1 ≤ x.f2.length) → (∀ (j : Nat) m, acc[j]? = some m → m.f0 = rd L j) →
 ∃ l p', Ev (fun k => QaA.l1 k L i s p acc) (l, p') ∧ l.length = L.length ∧ (∀ x, x ∈ l → QaZ L.length x = false ∧ 1 ≤ x.f2.length) ∧ (∀ (j : Nat) m, l[j]? = some m → m.f0 = rd L j) ∧ p ≤ p' ∧ p' ≤ p + 200 * (d : Int) := by
 intro d
 induction d with
 | zero =>
   intro i acc p hi hd hl hc hp ha hj
   exact ⟨acc, p, Ev.step (fun k => by rw [QaA.l1]) (Ev.ifn (by omega) (Ev.now _)), by omega, ha, hj, by omega, by omega⟩
 | succ d ih =>
   intro i acc p hi hd hl hc hp ha hj
   obtain ⟨m, q, f1, f2, f3, f4, f5, f6⟩ := method_tells hL (by omega) hc (by omega) hi (by omega)
   have hal : acc.length < 3518437208883 := by omega
   have hw : Aside0 (wrap64 (i + 1) = i + 1) := ⟨w64 (by omega) (by omega)⟩
   obtain ⟨l, p', e1, e2, e3, e4, e5, e6⟩ := ih (i + 1) (acc ++ [m]) q (by omega) (by omega) (by rw [List.length_append, List.length_singleton]; omega) (hc.to f5) (by omega) (QbP ha (all1 ⟨f2, f4⟩)) (fun j m' hm' => by
    rcases Nat.lt_or_ge j acc.length with h | h
    · rw [List.getElem?_append_left h] at hm'
      exact hj j m' hm'
    · rw [List.getElem?_append_right h] at hm'
      have hlt := (List.getElem?_eq_some_iff.1 hm').1
      rw [List.length_singleton] at hlt
      have e : j - acc.length = 0 := by omega
      rw [e] at hm'
      simp only [List.getElem?_cons_zero, Option.some.injEq] at hm'
      subst hm'
      rw [f3]
      congr 1
      omega)
   refine ⟨l, p', ?_, e2, e3, e4, by omega, by omega⟩
   refine Ev.step (fun k => by rw [QaA.l1]) ?_
   refine Ev.ifp (by omega) ?_
   refine Ev.bnd f1 ?_
   refine Ev.ifp hal ?_
   rw [hw.out]
   exact e1
theorem prog_tells {s : List Int} {p : Int} (hc : QbG s p) (hp : p ≤ 999000000) :
 ∃ l p', Ev (fun k => QaA.f k s p) (l, p') ∧ QbB l = true ∧ (∀ x, x ∈ l → 1 ≤ x.f2.length) ∧ 2 ≤ l.length ∧ p ≤ p' ∧ p' ≤ p + 2000 := by
 have end_ : ∀ (L : List Int) (q : Int), 2 ≤ L.length → L.length ≤ 4 → rd L 0 = 0 → (∀ x, x ∈ L → 0 ≤ x ∧ x ≤ 2) → p ≤ q → q ≤ p + 100 → ∃ l p', Ev (fun k => QaA.l1 k L 0 s q []) (l, p') ∧ QbB l = true ∧ (∀ x, x ∈ l → 1 ≤ x.f2.length) ∧ 2 ≤ l.length ∧ p ≤ p' ∧ p' ≤ p + 2000 := by
  intro L q hL2 hL4 h0 hL hq0 hq1
  obtain ⟨l, p', e1, e2, e3, e4, e5, e6⟩ := progLoop_tells hL hL4 (s := s) L.length 0 [] q (by omega) (by omega) (by simp) (hc.to hq0) (by omega) (fun x hx => by simp at hx) (fun j m hm => by simp at hm)
  refine ⟨l, p', e1, ?_, fun x hx => (e3 x hx).2, by omega, by omega, by omega⟩
  unfold QbB
  have hz : (Qaa l 0).f0 = 0 := by
   have hg : l[0]? = some l[0] := List.getElem?_eq_getElem (by omega)
   unfold Qaa
   rw [List.getD_eq_getElem?_getD]
   show (l[0]?.getD QbH).f0 = 0
   rw [hg]
   show l[0].f0 = 0
   rw [e4 0 _ hg]
   exact h0
  rw [if_pos ⟨by omega, by omega, hz⟩]
  have : l.any (QaZ l.length) = false := by
   rw [List.any_eq_false]
   intro x hx
   rw [e2, (e3 x hx).1]
   simp
  rw [this]
  rfl
 have loop : ∀ (d : Nat) (x4 : Int) (L : List Int) (q : Int), x4 = d → 1 ≤ L.length → 2 ≤ L.length + d → L.length + d ≤ 4 → rd L 0 = 0 → (∀ x, x ∈ L → 0 ≤ x ∧ x ≤ 2) → p ≤ q → q + d ≤ p + 100 → ∃ l p', Ev (fun k => QaA.l0 k L x4 s q) (l, p') ∧ QbB l = true ∧ (∀ x, x ∈ l → 1 ≤ x.f2.length) ∧ 2 ≤ l.length ∧ p ≤ p' ∧ p' ≤ p + 2000 := by
  intro d
  induction d with
  | zero =>
    intro x4 L q hx h1 h2 h4 h0 hL hq0 hq1
    obtain ⟨l, p', e1, e⟩ := end_ L q (by omega) (by omega) h0 hL hq0 (by omega)
    exact ⟨l, p', Ev.step (fun k => by rw [QaA.l0]) (Ev.ifn (by omega) e1), e⟩
  | succ d ih =>
    intro x4 L q hx h1 h2 h4 h0 hL hq0 hq1
    obtain ⟨r, k1, k2, k3⟩ := Qbj (hc.to hq0) (by omega) 3
    have k4 := k3 (by omega)
    have hw : Aside0 (wrap64 (x4 - 1) = x4 - 1) := ⟨w64 (by omega) (by omega)⟩
    obtain ⟨l, p', e1, e⟩ := ih (x4 - 1) (L ++ [r]) (q + 1) (by omega) (by simp) (by simp; omega) (by simp; omega) (by
     unfold rd at h0 ⊢
     rw [List.getD_eq_getElem?_getD] at h0 ⊢
     rw [List.getElem?_append_left (show (0 : Int).toNat < L.length by show 0 < L.length; omega)]
     exact h0) (QbP hL (all1 ⟨k2, by omega⟩)) (by omega) (by omega)
    refine ⟨l, p', ?_, e⟩
    refine Ev.step (fun k => by rw [QaA.l0]) ?_
    refine Ev.ifp (by omega) ?_
    refine Ev.bnd k1 ?_
    refine Ev.ifp (by omega) ?_
    rw [hw.out]
    exact e1
 obtain ⟨r, k1, k2, k3⟩ := Qbj hc (by omega) 3
 have k4 := k3 (by omega)
 obtain ⟨l, p', e1, e⟩ := loop (1 + r).toNat (1 + r) [0] (p + 1) (by omega) (by simp) (by simp; omega) (by simp; omega) rfl (all1 ⟨by omega, by omega⟩) (by omega) (by omega)
 refine ⟨l, p', ?_, e⟩
 unfold QaA.f
 refine Ev.bnd k1 ?_
 rw [w64 (x := 1 + r) (by omega) (by omega)]
 exact e1
end Go.Proofs.Ytabcijheemjplaa.G
namespace Go.Proofs.Ytabcijheemjplaa.G
open Go.RowKit Go.Proofs.YtabcijheemjplaaW.PrintWords Go.Proofs.YtabcijheemjplaaW.PrintLast Go.Proofs.YtabcijheemjplaaW.PrintMore
attribute [local go_sem] QaP QaQ Qa2 Qa3 QaJ QaK QaR QaS
set_option linter.unusedVariables false
set_option linter.unusedSimpArgs false
structure DrSt (w0 w W : World) (g : Nat) (s : List Int) (p : Int) : Prop where
 st : Qad w0 W g s p
 bel : Below w0.heap.size w0 W
 keep : Qai w W g none
 glt : g < w.heap.size
section
variable {w0 w W W1 : World} {g : Nat} {s : List Int} {p p' : Int}
theorem DrSt.new (hI : Qad w0 w g s p) (hB : Below w0.heap.size w0 w) : DrSt w0 w w g s p := ⟨hI, hB, Qai.refl _ _ _, hI.lt⟩
theorem DrSt.below (h : DrSt w0 w W g s p) (hb : Below W.heap.size W W1) : DrSt w0 w W1 g s p :=
 ⟨h.st.below hb, Qa_ h.bel h.bel.size hb, h.keep.trans (Qai.of_below hb g none) (.inl rfl), h.glt⟩
theorem DrSt.alloc (h : DrSt w0 w W g s p) (o : Obj) : DrSt w0 w (W.alloc o) g s p := h.below (Qal (Below.refl _ _) o)
theorem DrSt.drew (h : DrSt w0 w W g s p) : DrSt w0 w W.drew g s p := h.below (QbR (Below.refl _ _))
theorem DrSt.drewN (h : DrSt w0 w W g s p) (n : Nat) : DrSt w0 w (W.drewN n) g s p := h.below (Qar (Below.refl _ _) n)
theorem DrSt.set_ (h : DrSt w0 w W g s p) {b j : Nat} (hb : w.heap.size ≤ b) (u : Value) : DrSt w0 w (W.setCell ⟨b, j, none⟩ u) g s p :=
 ⟨h.st.far (by have := h.glt; show g ≠ b; omega) u, h.bel.setCell (by have := h.st.ge; have := h.glt; show w0.heap.size ≤ b; omega) u,
  ⟨Nat.le_trans h.keep.1 (by rw [World.size_setCell]; exact Nat.le_refl _), fun i hi e1 e2 => (Qa1 (by show i ≠ b; omega)).trans (h.keep.2 i hi e1 e2)⟩, h.glt⟩
theorem DrSt.call (h : DrSt w0 w W g s p) (h1 : Qad w0 W1 g s p') (h2 : Below w0.heap.size w0 W1) (h3 : Qai W W1 g none) : DrSt w0 w W1 g s p' := ⟨h1, h2, h.keep.trans h3 (.inl rfl), h.glt⟩
end
structure QbT (lo hi : Nat) (A : Option Addr) (c : Nat) (l : List Qae) (w' : World) : Prop where
 cap : l.length ≤ c
 held : ∀ W_ : World, (∀ k, lo ≤ k → k < hi → W_.heap[k]? = w'.heap[k]?) → Kd.C QaD W_ A l.length l
 few : l.length ≤ 7
 ops : ∀ m, m ∈ l → m.f2.length ≤ 1000
theorem QbT.now {lo hi : Nat} {A : Option Addr} {c : Nat} {l : List Qae} {w : World} (h : QbT lo hi A c l w) : Kd.C QaD w A l.length l := h.held w fun _ _ _ => rfl
theorem QbT.move {lo hi lo' hi' : Nat} {A : Option Addr} {c : Nat} {l : List Qae} {w w1 : World} (h : QbT lo hi A c l w) (hl : lo' ≤ lo) (hh : hi ≤ hi') (hm : ∀ k, lo ≤ k → k < hi → w1.heap[k]? = w.heap[k]?) : QbT lo' hi' A c l w1 :=
 ⟨h.cap, fun W_ hW => h.held W_ fun k h1 h2 => (hW k (by omega) (by omega)).trans (hm k h1 h2), h.few, h.ops⟩
theorem QbT.keep {lo hi g : Nat} {A : Option Addr} {c : Nat} {l : List Qae} {w w1 : World} (h : QbT lo hi A c l w) (hh : hi ≤ w.heap.size) (hg : g < lo) (hk : Qai w w1 g none) : QbT lo hi A c l w1 :=
 h.move (Nat.le_refl _) (Nat.le_refl _) fun k h1 h2 => hk.2 k (by omega) (by omega) (by simp)
theorem QbT.alloc {lo hi : Nat} {A : Option Addr} {c : Nat} {l : List Qae} {w : World} (h : QbT lo hi A c l w) (hh : hi ≤ w.heap.size) (o : Obj) : QbT lo hi A c l (w.alloc o) :=
 h.move (Nat.le_refl _) (Nat.le_refl _) fun k _ h2 => Below.heap_alloc _ _ _ (by omega)
theorem QbT.set_ {lo hi b j : Nat} {A : Option Addr} {c : Nat} {l : List Qae} {w : World} (h : QbT lo hi A c l w) (hb : b < lo ∨ hi ≤ b) (u : Value) : QbT lo hi A c l (w.setCell ⟨b, j, none⟩ u) :=
 h.move (Nat.le_refl _) (Nat.le_refl _) fun k h1 h2 => Qa1 (by show k ≠ b; omega)
theorem progOkB_few {l : List Qae} (h : QbB l = true) : l.length ≤ 4 ∧ ∀ m, m ∈ l → m.f2.length ≤ 14 := by
 unfold QbB at h
 split at h
 · next hc =>
   refine ⟨hc.2.1, fun m hm => ?_⟩
   have h2 : l.any (QaZ l.length) = false := by simpa using h
   rw [List.any_eq_false] at h2
   have h3 := h2 m hm
   unfold QaZ at h3
   split at h3
   · next hc2 => exact hc2.2.2.2.2
   · simp at h3
 · cases h
theorem prog_any (g : Nat) (s : List Int) (p : Int) (w0 w : World) (hI : Qad w0 w g s p) (hB : Below w0.heap.size w0 w) (hc : QbG s p) (hp : p ≤ 900000000) :
 Calls Try.prog 54 #[.pointer (some ⟨g, 0, none⟩)] w fun e w' => ∃ A c l p', e = .returned (.agg #[.slice A l.length c]) ∧ QbT w.heap.size w'.heap.size A c l w' ∧ Qad w0 w' g s p' ∧ Below w0.heap.size w0 w' ∧ Qai w w' g none ∧
  (QbB l = true ∧ (∀ x, x ∈ l → 1 ≤ x.f2.length) ∧ 2 ≤ l.length ∧ p ≤ p' ∧ p' ≤ p + 2000) := by
 obtain ⟨l, p', h1, h2, h3, h4, h5, h6⟩ := prog_tells hc (by omega)
 obtain ⟨k, hk⟩ := h1.rounds
 have glt := hI.lt
 refine (QaA.calls k g s p l p' w0 w hI hB hk).mono ?_
 rintro e w' ⟨v, rfl, hS, hI', hB', hK⟩
 have hR := Kd.S_R hS
 obtain ⟨A, c, rfl, hl, hC⟩ := Kd.R_reads hR
 have hf := progOkB_few h2
 refine ⟨A, c, l, p', rfl, ⟨hl, fun W_ hW => ?_, by have := hf.1; omega, fun m hm => by have := hf.2 m hm; omega⟩, hI', hB', hK, h2, h3, h4, h5, h6⟩
 obtain ⟨A2, c2, e2, _, hC2⟩ := Kd.R_reads (Kd.R_move (Kd.R_bound hR) (w1 := W_) (fun k hk => hW k hk.2.1 hk.2.2.1))
 injection e2 with e2
 subst e2
 exact hC2
end Go.Proofs.Ytabcijheemjplaa.G
namespace Go.Proofs.Ytabcijheemjplaa.G
open Go.RowKit Go.Proofs.YtabcijheemjplaaW.PrintWords Go.Proofs.YtabcijheemjplaaW.PrintLast Go.Proofs.YtabcijheemjplaaW.PrintMore
attribute [local go_sem] QaP QaQ Qa2 Qa3 QaJ QaK QaR QaS
set_option linter.unusedVariables false
set_option linter.unusedSimpArgs false
theorem open_any (A0 : Option Addr) (c0 : Nat) (l0 : List Int) (w0 w : World) (hB : Below w0.heap.size w0 w) (hr0 : Kd.C (Kd.int .u8) w0 A0 l0.length l0) (hc0 : l0.length ≤ c0) (hl : l0.length ≤ 1048576) (hb : ∀ x, x ∈ l0 → 0 ≤ x ∧ x ≤ 255) :
 Calls Try.prog 53 #[.slice A0 l0.length c0] w fun e w' => ∃ (g : Nat) (s : List Int), e = .returned (.pointer (some ⟨g, 0, none⟩)) ∧ Qad w0 w' g s 0 ∧ Below w0.heap.size w0 w' ∧ Below w.heap.size w w' ∧ QbG s 0 := by
 have h : ∃ s, Qcd.f l0 = some (s, 0) ∧ QbG s 0 := by
  unfold Qcd.f
  by_cases c : (l0.length : Int) > 2000
  · exact ⟨l0.take 2000, by rw [if_pos c, if_pos (by omega)], by rw [List.length_take]; omega, fun x hx => hb x (List.mem_of_mem_take hx), by omega⟩
  · exact ⟨l0, by rw [if_neg c], hl, hb, by omega⟩
 obtain ⟨s, h1, h2⟩ := h
 exact (Qcd.calls A0 c0 l0 s 0 w0 w hB hr0 hc0 h1).mono fun e w' ⟨g, he, hI, hb0, hb1⟩ => ⟨g, s, he, hI, hb0, hb1, h2⟩
end Go.Proofs.Ytabcijheemjplaa.G
namespace Go.Proofs.Ytabcijheemjplaa.G
open Go.RowKit Go.Proofs.YtabcijheemjplaaW.PrintWords Go.Proofs.YtabcijheemjplaaW.PrintLast Go.Proofs.YtabcijheemjplaaW.PrintMore
attribute [local go_sem] QaP QaQ Qa2 Qa3 QaJ QaK QaR QaS
set_option linter.unusedVariables false
set_option linter.unusedSimpArgs false
theorem mMost_more (n nl : Nat) (y no : Int) : mMost n (nl : Int) y no ≤ mMost n ((nl + 1 : Nat) : Int) y no := by
 unfold mMost
 by_cases hn : n < 19
 · have h : n = 0 ∨ n = 1 ∨ n = 2 ∨ n = 3 ∨ n = 4 ∨ n = 5 ∨ n = 6 ∨ n = 7 ∨ n = 8 ∨ n = 9 ∨ n = 10 ∨ n = 11 ∨ n = 12 ∨ n = 13 ∨ n = 14 ∨ n = 15 ∨ n = 16 ∨ n = 17 ∨ n = 18 := by omega
   rcases h with rfl | rfl | rfl | rfl | rfl | rfl | rfl | rfl | rfl | rfl | rfl | rfl | rfl | rfl | rfl | rfl | rfl | rfl | rfl <;> simp <;> omega
 · rw [List.getD_eq_getElem?_getD, List.getElem?_eq_none (by simp; omega), List.getD_eq_getElem?_getD, List.getElem?_eq_none (by simp; omega)]
   exact Int.le_refl _
theorem opOkB_more {n : Nat} {y : Int} {m : Nat} {k a : Int} (h : Qb8 n y m k a = true) : Qb8 (n + 1) y m k a = true := by
 unfold Qb8 at h ⊢
 split
 · next hk =>
   rw [if_pos hk] at h
   split
   · next hg => rw [if_pos hg] at h; exact h
   · next hg =>
     rw [if_neg hg] at h
     have h1 := of_decide_eq_true h
     have h2 := mMost_more k.toNat n y m
     exact decide_eq_true ⟨h1.1, by omega⟩
 · next hk => rw [if_neg hk] at h; exact h
theorem methodBadB_more {n : Nat} {m : Qae} (h : QaZ n m = false) : QaZ (n + 1) m = false := by
 unfold QaZ at h ⊢
 split
 · next hc =>
   rw [if_pos hc] at h
   rw [List.any_eq_false] at h ⊢
   intro op hop
   have h2 := h op hop
   simp only [Bool.not_eq_true, Bool.not_eq_false'] at h2 ⊢
   exact opOkB_more h2
 · next hc => rw [if_neg hc] at h; exact h
theorem progOkB_snoc {l : List Qae} (h : QbB l = true) : QbB (l ++ [(⟨0, 0, []⟩ : Qae)]) = decide (l.length < 4) := by
 unfold QbB at h
 split at h
 · next hc =>
   have h2 : l.any (QaZ l.length) = false := by simpa using h
   rw [List.any_eq_false] at h2
   have hrd : (Qaa (l ++ [(⟨0, 0, []⟩ : Qae)]) 0).f0 = 0 := by
    rw [show Qaa (l ++ [(⟨0, 0, []⟩ : Qae)]) 0 = Qaa l 0 from ?_]
    · exact hc.2.2
    · show (l ++ [(⟨0, 0, []⟩ : Qae)]).getD (0 : Int).toNat QbH = l.getD (0 : Int).toNat QbH
      rw [List.getD_eq_getElem?_getD, List.getD_eq_getElem?_getD, List.getElem?_append_left (show (0 : Int).toNat < l.length by have := hc.1; simp only [Int.toNat_zero]; omega)]
   have hlen : (l ++ [(⟨0, 0, []⟩ : Qae)]).length = l.length + 1 := by simp
   unfold QbB
   rw [hlen, hrd]
   by_cases h4 : l.length < 4
   · rw [if_pos ⟨by omega, by omega, rfl⟩, decide_eq_true h4]
     have : (l ++ [(⟨0, 0, []⟩ : Qae)]).any (QaZ (l.length + 1)) = false := by
      rw [List.any_eq_false]
      intro m hm
      rcases List.mem_append.1 hm with hm | hm
      · have h3 := h2 m hm
        rw [Bool.not_eq_true] at h3 ⊢
        exact methodBadB_more h3
      · rw [List.mem_singleton.1 hm, Bool.not_eq_true]
        rfl
     rw [this]
     rfl
   · rw [if_neg (by omega), decide_eq_false h4]
 · cases h
theorem drawn_few {lo hi : Nat} {A : Option Addr} {c : Nat} {l : List Qae} {w : World} (h : QbT lo hi A c l w) : fewI l := ⟨by have := h.few; omega, fun m hm => by have := h.ops m hm; omega⟩
theorem own_ne {v : Value} {n m : Nat} (h : ∃ b, v.ownBlock = some b ∧ m ≤ b) (hn : n < m) : some n ≠ v.ownBlock := by
 obtain ⟨b, hb, hge⟩ := h
 rw [hb]
 intro he
 injection he with he
 omega
theorem own_ne2 {v v' : Value} {n m : Nat} (hat : v'.ownBlock = v.ownBlock ∨ ∃ b, v'.ownBlock = some b ∧ m ≤ b) (h : some n ≠ v.ownBlock) (hn : n < m) : some n ≠ v'.ownBlock := by
 rcases hat with hat | hat
 · rw [hat]; exact h
 · exact own_ne hat hn
end Go.Proofs.Ytabcijheemjplaa.G
namespace Go.Proofs.Ytabcijheemjplaa.G
open Go.RowKit Go.Proofs.YtabcijheemjplaaW.PrintWords Go.Proofs.YtabcijheemjplaaW.PrintLast Go.Proofs.YtabcijheemjplaaW.PrintMore
attribute [local go_sem] QaP QaQ Qa2 Qa3 QaJ QaK QaR QaS
set_option linter.unusedVariables false
set_option linter.unusedSimpArgs false
theorem specDeepAt_any (A : Option Addr) (c : Nat) (l : List Qae) (k : Int) (out : List Int) (b : Bool) (w : World) (hr : Kd.C QaD w A l.length l) (hc : l.length ≤ c) (h : Ev (fun n => QaF.f n l k) (out, b)) :
 Calls Try.prog 16 #[.agg #[.slice A l.length c], .int .i64 k] w fun e w' => ∃ A1 c1, e = .returned (.tuple #[.slice A1 out.length c1, .bool b]) ∧ out.length ≤ c1 ∧ Kd.C (Kd.int .i64) w' A1 out.length out ∧ Below w.heap.size w w' := by
 obtain ⟨n, hn⟩ := h.rounds
 refine (QaF.calls n A c l k out b w hr hc hn).mono ?_
 rintro e w' ⟨v, rfl, hR, hB⟩
 obtain ⟨A1, c1, rfl, h1, h2⟩ := Kd.R_reads hR
 exact ⟨A1, c1, rfl, h1, h2, hB⟩
theorem Qcn (A : Option Addr) (c : Nat) (l : List Qae) (k : Int) (out : List Int) (most : Int) (b : Bool) (w : World) (hr : Kd.C QaD w A l.length l) (hc : l.length ≤ c) (h : Ev (fun n => Qak.f n l k) (out, most, b)) :
 Calls Try.prog 17 #[.agg #[.slice A l.length c], .int .i64 k] w fun e w' => ∃ A1 c1, e = .returned (.tuple #[.slice A1 out.length c1, .bool b]) ∧ out.length ≤ c1 ∧ Kd.C (Kd.int .i64) w' A1 out.length out ∧ Below w.heap.size w w' := by
 obtain ⟨n, hn⟩ := (show Ev (fun n => QbN.f n l k) (out, b) from Ev.bnd h (Ev.now _)).rounds
 refine (QbN.calls n A c l k out b w hr hc hn).mono ?_
 rintro e w' ⟨v, rfl, hR, hB⟩
 obtain ⟨A1, c1, rfl, h1, h2⟩ := Kd.R_reads hR
 exact ⟨A1, c1, rfl, h1, h2, hB⟩
end Go.Proofs.Ytabcijheemjplaa.G
