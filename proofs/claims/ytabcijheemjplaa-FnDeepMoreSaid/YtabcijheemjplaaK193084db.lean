import Derived.Test.YtabcijheemjplaaK6ca9bb5a
import Derived.Deep.Slices
import Derived.OpenShut
namespace Go.Proofs.Ytabcijheemjplaa.G
open Go.RowKit Go.Proofs.YtabcijheemjplaaW.PrintWords Go.Proofs.YtabcijheemjplaaW.PrintLast
theorem w64 {x : Int} (h0 : -9223372036854775808 ≤ x) (h1 : x ≤ 9223372036854775807) : wrap64 x = x := by unfold wrap64; omega
theorem Ev.ifp {α : Type} {c : Prop} [Decidable c] {f g : Nat → Option α} {r : α} (h : c) (k : Ev f r) : Ev (fun n => if c then f n else g n) r := by
 obtain ⟨K, hK⟩ := k
 exact ⟨K, fun n hn => by show (if c then f n else g n) = _; rw [if_pos h]; exact hK n hn⟩
theorem Ev.ifn {α : Type} {c : Prop} [Decidable c] {f g : Nat → Option α} {r : α} (h : ¬ c) (k : Ev g r) : Ev (fun n => if c then f n else g n) r := by
 obtain ⟨K, hK⟩ := k
 exact ⟨K, fun n hn => by show (if c then f n else g n) = _; rw [if_neg h]; exact hK n hn⟩
theorem Ev.bindc {α β : Type} {g : Option α} {f : Nat → α → Option β} {a : α} {r : β} (h : g = some a) (k : Ev (fun n => f n a) r) : Ev (fun n => g.bind (f n)) r := by
 subst h
 exact k
theorem Ev.bnd {α β : Type} {g : Nat → Option α} {f : Nat → α → Option β} {a : α} {r : β} (h : Ev g a) (k : Ev (fun n => f n a) r) : Ev (fun n => (g n).bind (f n)) r := Ev.bind h k
theorem ev_for {σ ρ : Type} (L : Nat → Int → σ → Option ρ) (n : Nat) (Inv : Nat → σ → Prop) (Post : ρ → Prop)
 (hstep : ∀ (i : Nat) s, i < n → Inv i s → (∃ r, Post r ∧ Ev (fun k => L k i s) r) ∨ ∃ s', Inv (i + 1) s' ∧ ∀ r, Ev (fun k => L k ((i : Int) + 1) s') r → Ev (fun k => L k i s) r)
 (hend : ∀ s, Inv n s → ∃ r, Post r ∧ Ev (fun k => L k n s) r) : ∀ (d i : Nat) s, n - i = d → i ≤ n → Inv i s → ∃ r, Post r ∧ Ev (fun k => L k i s) r := by
 intro d
 induction d with
 | zero =>
   intro i s hd hi hI
   obtain rfl : i = n := by omega
   exact hend s hI
 | succ d ih =>
   intro i s hd hi hI
   rcases hstep i s (by omega) hI with h | ⟨s', hI', hk⟩
   · exact h
   · obtain ⟨r, hp, hr⟩ := ih (i + 1) s' (by omega) (by omega) hI'
     exact ⟨r, hp, hk r (by have : ((i + 1 : Nat) : Int) = (i : Int) + 1 := by omega
                            rw [← this]; exact hr)⟩
theorem ev_for0 {σ ρ : Type} (L : Nat → Int → σ → Option ρ) (n : Nat) (Inv : Nat → σ → Prop) (Post : ρ → Prop)
 (hstep : ∀ (i : Nat) s, i < n → Inv i s → (∃ r, Post r ∧ Ev (fun k => L k i s) r) ∨ ∃ s', Inv (i + 1) s' ∧ ∀ r, Ev (fun k => L k ((i : Int) + 1) s') r → Ev (fun k => L k i s) r)
 (hend : ∀ s, Inv n s → ∃ r, Post r ∧ Ev (fun k => L k n s) r) (s : σ) (h : Inv 0 s) : ∃ r, Post r ∧ Ev (fun k => L k 0 s) r :=
 ev_for L n Inv Post hstep hend n 0 s (by omega) (by omega) h
theorem ev_all {ρ : Type} (L : Nat → Int → Option ρ) (n : Nat) (r : ρ) (hstep : ∀ (i : Nat), i < n → ∀ r, Ev (fun k => L k ((i : Int) + 1)) r → Ev (fun k => L k i) r) (hend : Ev (fun k => L k n) r) : Ev (fun k => L k 0) r := by
 obtain ⟨r', rfl, hr⟩ := ev_for0 (σ := Unit) (fun k i _ => L k i) n (fun _ _ => True) (fun r' => r' = r) (fun i _ hi _ => .inr ⟨(), trivial, fun r hr => hstep i hi r hr⟩) (fun _ _ => ⟨r, rfl, hend⟩) () trivial
 exact hr
theorem rdget {α : Type} {l : List α} {i : Nat} {d : α} (h : i < l.length) : l.getD (i : Int).toNat d = l[i] := by
 rw [Int.toNat_natCast, List.getD_eq_getElem?_getD, List.getElem?_eq_getElem h]
 rfl
end Go.Proofs.Ytabcijheemjplaa.G
namespace Go.Proofs.Ytabcijheemjplaa.G
open Go.RowKit Go.Proofs.YtabcijheemjplaaW.PrintWords Go.Proofs.YtabcijheemjplaaW.PrintLast
theorem Qca {l : List Qac} {i : Nat} (h : i < l.length) : Qah l i = l[i] := rdget h
theorem Qbl {l : List Qae} {i : Nat} (h : i < l.length) : Qaa l i = l[i] := rdget h
def few (l : List S_laws_Method) : Prop := l.length ≤ 1048576 ∧ ∀ m ∈ l, m.f2.length ≤ 1048576
def fewI (l : List Qae) : Prop := l.length ≤ 1048576 ∧ ∀ m ∈ l, m.f2.length ≤ 1048576
end Go.Proofs.Ytabcijheemjplaa.G
