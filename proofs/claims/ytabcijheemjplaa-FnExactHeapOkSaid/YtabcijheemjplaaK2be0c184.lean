import Derived.Test.YtabcijheemjplaaK504cd682
import Derived.Deep.Slices
import Derived.OpenShut
import Derived.Test.YtabcijheemjplaaK81ea63c1
import Derived.Test.YtabcijheemjplaaK71ac883f
namespace Go.Proofs.Ytabcijheemjplaa.G
open Go.RowKit Go.Proofs.YtabcijheemjplaaW.PrintWords Go.Proofs.YtabcijheemjplaaW.PrintLast Go.Proofs.YtabcijheemjplaaW.PrintMore
attribute [local go_sem] Qa3 Qa4 Qbc Qbd QaP QaQ Qa5 Qa6
set_option linter.unusedVariables false
set_option linter.unusedSimpArgs false
def Opens {α : Type} (k : Kd α) (Wf : α → Prop) (t : TypeId) : Prop :=
 ∀ (H : Type) (enc : TypeId × Value → H) (w : World) (base : Nat) (spare : Nat → Bool) (held : Bool) (fuel : Nat) (cs : List Value) (x : DataW H × List MemPlace), DataW.trod enc Try.prog w base spare held fuel t cs = some x → ∃ a, k.K w a cs ∧ Wf a
def In64 (n : Int) : Prop := -9223372036854775808 ≤ n ∧ n ≤ 9223372036854775807
theorem Qb5 {t : TypeId} (ht : Try.prog.underlying t = some (.int .i64)) : Opens (Kd.int .i64) In64 t := by
 intro H enc w base spare held fuel cs x h
 obtain ⟨n, rfl, -, hw⟩ := DataW.trod_int ht h
 exact ⟨n, rfl, bounds_i64 hw⟩
theorem opens_bool {t : TypeId} (ht : Try.prog.underlying t = some .bool) : Opens Kd.bool (fun _ => True) t := by
 intro H enc w base spare held fuel cs x h
 obtain ⟨n, rfl, -⟩ := DataW.trod_bool ht h
 exact ⟨n, rfl, trivial⟩
theorem list_of {α : Type} {n : Nat} {p : Nat → α → Prop} (h : ∀ i, i < n → ∃ x, p i x) : ∃ l : List α, l.length = n ∧ ∀ i x, l[i]? = some x → p i x := by
 induction n with
 | zero => exact ⟨[], rfl, fun i x hx => by simp at hx⟩
 | succ n ih =>
   obtain ⟨l, hl, hp⟩ := ih (fun i hi => h i (Nat.lt_succ_of_lt hi))
   obtain ⟨y, hy⟩ := h n (Nat.lt_succ_self n)
   refine ⟨l ++ [y], by simp [hl], fun i x hx => ?_⟩
   rcases Nat.lt_or_ge i n with hi | hi
   · rw [List.getElem?_append_left (by omega)] at hx
     exact hp i x hx
   · have hi' : i = n := by
      have := (List.getElem?_eq_some_iff.1 hx).1
      simp at this
      omega
     subst hi'
     rw [List.getElem?_append_right (by omega)] at hx
     simp [hl] at hx
     rw [← hx]
     exact hy
theorem Qco {α : Type} {k : Kd α} {Wf : α → Prop} {t e : TypeId} (ht : Try.prog.underlying t = some (.slice e)) (hs : Try.prog.cellsOf e = k.sz) (he : Opens k Wf e) : Opens (Kd.slice e k) (fun l => l.length ≤ 9223372036854775807 ∧ ∀ x ∈ l, Wf x) t := by
 intro H enc w base spare held fuel cs x h
 rcases Go.Deep.open_slice ht h with ⟨rfl, -⟩ | ⟨a, len, cap, m, n, D, Pl, rfl, -, hl, hm, hmm, -, hx⟩
 · exact ⟨[], ⟨none, 0, rfl, Nat.le_refl _, rfl, by simp, fun h => absurd h (Nat.lt_irrefl 0)⟩, by simp, fun x hx => by simp at hx⟩
 · have hle : len ≤ m := by rw [hmm]; split <;> omega
   obtain ⟨l, hll, hlp⟩ := list_of (n := len) (p := fun i x => Wf x ∧ ∃ c, c.length = k.sz ∧ k.K w x c ∧ ∀ j u, c[j]? = some u → w.cell? (a.add (i * k.sz + j)) = some u) (fun i hi => by
    obtain ⟨cs', h1, h2⟩ := hx i (by omega)
    obtain ⟨y, hK, hW⟩ := he _ _ _ _ _ _ _ _ _ h2
    obtain ⟨-, hlen, hcell⟩ := World.cells?_some h1
    refine ⟨y, hW, cs', by rw [hlen, hs], hK, fun j u hu => ?_⟩
    have hj : j < cs'.length := (List.getElem?_eq_some_iff.1 hu).1
    have := hcell j (by omega)
    rw [Go.Deep.add_add, hs] at this
    rw [this, hu])
   have hcap : len ≤ 9223372036854775807 := by unfold maxLen at hm; omega
   refine ⟨l, ⟨some a, cap, by rw [hll], by omega, rfl, by omega, fun _ => ⟨a, rfl, fun j p hp => (hlp j p hp).2⟩⟩, by omega, fun x hx => ?_⟩
   obtain ⟨i, hi, rfl⟩ := List.mem_iff_getElem.mp hx
   exact (hlp i _ (List.getElem?_eq_getElem hi)).1
end Go.Proofs.Ytabcijheemjplaa.G
namespace Go.Proofs.Ytabcijheemjplaa.G
open Go.RowKit Go.Proofs.YtabcijheemjplaaW.PrintWords Go.Proofs.YtabcijheemjplaaW.PrintLast Go.Proofs.YtabcijheemjplaaW.PrintMore
attribute [local go_sem] Qa3 Qa4 Qbc Qbd QaP QaQ Qa5 Qa6
set_option linter.unusedVariables false
set_option linter.unusedSimpArgs false
theorem list_1 {α : Type} (l : List α) (h : l.length = 1) : ∃ c0, l = [c0] := by
 match l, h with
 | [c0], _ => exact ⟨c0, rfl⟩
theorem list_2 {α : Type} (l : List α) (h : l.length = 2) : ∃ c0 c1, l = [c0, c1] := by
 match l, h with
 | [c0, c1], _ => exact ⟨c0, c1, rfl⟩
theorem list_3 {α : Type} (l : List α) (h : l.length = 3) : ∃ c0 c1 c2, l = [c0, c1, c2] := by
 match l, h with
 | [c0, c1, c2], _ => exact ⟨c0, c1, c2, rfl⟩
theorem list_5 {α : Type} (l : List α) (h : l.length = 5) : ∃ c0 c1 c2 c3 c4, l = [c0, c1, c2, c3, c4] := by
 match l, h with
 | [c0, c1, c2, c3, c4], _ => exact ⟨c0, c1, c2, c3, c4, rfl⟩
theorem list_6 {α : Type} (l : List α) (h : l.length = 6) : ∃ c0 c1 c2 c3 c4 c5, l = [c0, c1, c2, c3, c4, c5] := by
 match l, h with
 | [c0, c1, c2, c3, c4, c5], _ => exact ⟨c0, c1, c2, c3, c4, c5, rfl⟩
theorem Qcv : Try.prog.cellsOf 3 = 1 := by kernel_rfl
theorem cells_4 : Try.prog.cellsOf 4 = 1 := by kernel_rfl
theorem cells_39 : Try.prog.cellsOf 39 = 1 := by kernel_rfl
theorem cells_41 : Try.prog.cellsOf 41 = 1 := by kernel_rfl
theorem cells_58 : Try.prog.cellsOf 58 = 1 := by kernel_rfl
theorem cells_59 : Try.prog.cellsOf 59 = 1 := by kernel_rfl
theorem cells_61 : Try.prog.cellsOf 61 = 5 := by kernel_rfl
theorem cells_134 : Try.prog.cellsOf 134 = 1 := by kernel_rfl
theorem cells_136 : Try.prog.cellsOf 136 = 3 := by kernel_rfl
theorem cells_148 : Try.prog.cellsOf 148 = 6 := by kernel_rfl
theorem cells_152 : Try.prog.cellsOf 152 = 2 := by kernel_rfl
theorem cells_173 : Try.prog.cellsOf 173 = 2 := by kernel_rfl
def wf_laws_Op (x : Qbw) : Prop := In64 x.f0 ∧ In64 x.f1
set_option maxHeartbeats 1000000 in
theorem opens_laws_Op : Opens Qb_ wf_laws_Op 173 := by
 intro H enc w base spare held fuel cs x h
 obtain ⟨xs, n, -, -, hlen, hxl, hf⟩ := DataW.trod_struct Try.underlying173 h
 rw [cells_173] at hlen
 obtain ⟨c0, c1, rfl⟩ := list_2 cs hlen
 have g0 : DataW.trod enc Try.prog w base spare held n 3 ((List.drop 0 [c0, c1]).take (Try.prog.cellsOf 3)) = xs[0]? := hf 0 _ rfl
 obtain ⟨x0, e0⟩ : ∃ x, xs[0]? = some x := ⟨_, List.getElem?_eq_getElem (by rw [hxl]; decide)⟩
 rw [e0] at g0
 simp only [Qcv, List.drop, List.take] at g0
 obtain ⟨a0, k0, w0⟩ := (Qb5 Try.underlying3) _ _ _ _ _ _ _ _ _ g0
 have g1 : DataW.trod enc Try.prog w base spare held n 3 ((List.drop 1 [c0, c1]).take (Try.prog.cellsOf 3)) = xs[1]? := hf 1 _ rfl
 obtain ⟨x1, e1⟩ : ∃ x, xs[1]? = some x := ⟨_, List.getElem?_eq_getElem (by rw [hxl]; decide)⟩
 rw [e1] at g1
 simp only [Qcv, List.drop, List.take] at g1
 obtain ⟨a1, k1, w1⟩ := (Qb5 Try.underlying3) _ _ _ _ _ _ _ _ _ g1
 exact ⟨⟨a0, a1⟩, ⟨[c0], [c1], rfl, k0, k1⟩, ⟨w0, w1⟩⟩
def QcJ (x : Qa0) : Prop := In64 x.f0 ∧ In64 x.f1 ∧ (x.f2.length ≤ 9223372036854775807 ∧ ∀ y ∈ x.f2, wf_laws_Op y)
set_option maxHeartbeats 1000000 in
theorem opens_laws_Method : Opens QbG QcJ 136 := by
 intro H enc w base spare held fuel cs x h
 obtain ⟨xs, n, -, -, hlen, hxl, hf⟩ := DataW.trod_struct Try.underlying136 h
 rw [cells_136] at hlen
 obtain ⟨c0, c1, c2, rfl⟩ := list_3 cs hlen
 have g0 : DataW.trod enc Try.prog w base spare held n 3 ((List.drop 0 [c0, c1, c2]).take (Try.prog.cellsOf 3)) = xs[0]? := hf 0 _ rfl
 obtain ⟨x0, e0⟩ : ∃ x, xs[0]? = some x := ⟨_, List.getElem?_eq_getElem (by rw [hxl]; decide)⟩
 rw [e0] at g0
 simp only [Qcv, List.drop, List.take] at g0
 obtain ⟨a0, k0, w0⟩ := (Qb5 Try.underlying3) _ _ _ _ _ _ _ _ _ g0
 have g1 : DataW.trod enc Try.prog w base spare held n 3 ((List.drop 1 [c0, c1, c2]).take (Try.prog.cellsOf 3)) = xs[1]? := hf 1 _ rfl
 obtain ⟨x1, e1⟩ : ∃ x, xs[1]? = some x := ⟨_, List.getElem?_eq_getElem (by rw [hxl]; decide)⟩
 rw [e1] at g1
 simp only [Qcv, List.drop, List.take] at g1
 obtain ⟨a1, k1, w1⟩ := (Qb5 Try.underlying3) _ _ _ _ _ _ _ _ _ g1
 have g2 : DataW.trod enc Try.prog w base spare held n 134 ((List.drop 2 [c0, c1, c2]).take (Try.prog.cellsOf 134)) = xs[2]? := hf 2 _ rfl
 obtain ⟨x2, e2⟩ : ∃ x, xs[2]? = some x := ⟨_, List.getElem?_eq_getElem (by rw [hxl]; decide)⟩
 rw [e2] at g2
 simp only [cells_134, List.drop, List.take] at g2
 obtain ⟨a2, k2, w2⟩ := (Qco Try.underlying134 cells_173 opens_laws_Op) _ _ _ _ _ _ _ _ _ g2
 exact ⟨⟨a0, a1, a2⟩, ⟨[c0], [c1, c2], rfl, k0, ⟨[c1], [c2], rfl, k1, k2⟩⟩, ⟨w0, w1, w2⟩⟩
def wf_laws_Prog (x : Qcy) : Prop := (x.f0.length ≤ 9223372036854775807 ∧ ∀ y ∈ x.f0, QcJ y)
set_option maxHeartbeats 1000000 in
theorem opens_laws_Prog : Opens k_laws_Prog wf_laws_Prog 41 := by
 intro H enc w base spare held fuel cs x h
 obtain ⟨xs, n, -, -, hlen, hxl, hf⟩ := DataW.trod_struct Try.underlying41 h
 rw [cells_41] at hlen
 obtain ⟨c0, rfl⟩ := list_1 cs hlen
 have g0 : DataW.trod enc Try.prog w base spare held n 39 ((List.drop 0 [c0]).take (Try.prog.cellsOf 39)) = xs[0]? := hf 0 _ rfl
 obtain ⟨x0, e0⟩ : ∃ x, xs[0]? = some x := ⟨_, List.getElem?_eq_getElem (by rw [hxl]; decide)⟩
 rw [e0] at g0
 simp only [cells_39, List.drop, List.take] at g0
 obtain ⟨a0, k0, w0⟩ := (Qco Try.underlying39 cells_136 opens_laws_Method) _ _ _ _ _ _ _ _ _ g0
 exact ⟨⟨a0⟩, k0, w0⟩
def QcB (x : Qa8) : Prop := In64 x.f0 ∧ In64 x.f1
set_option maxHeartbeats 1000000 in
theorem QcK : Opens Qbv QcB 152 := by
 intro H enc w base spare held fuel cs x h
 obtain ⟨xs, n, -, -, hlen, hxl, hf⟩ := DataW.trod_struct Try.underlying152 h
 rw [cells_152] at hlen
 obtain ⟨c0, c1, rfl⟩ := list_2 cs hlen
 have g0 : DataW.trod enc Try.prog w base spare held n 3 ((List.drop 0 [c0, c1]).take (Try.prog.cellsOf 3)) = xs[0]? := hf 0 _ rfl
 obtain ⟨x0, e0⟩ : ∃ x, xs[0]? = some x := ⟨_, List.getElem?_eq_getElem (by rw [hxl]; decide)⟩
 rw [e0] at g0
 simp only [Qcv, List.drop, List.take] at g0
 obtain ⟨a0, k0, w0⟩ := (Qb5 Try.underlying3) _ _ _ _ _ _ _ _ _ g0
 have g1 : DataW.trod enc Try.prog w base spare held n 3 ((List.drop 1 [c0, c1]).take (Try.prog.cellsOf 3)) = xs[1]? := hf 1 _ rfl
 obtain ⟨x1, e1⟩ : ∃ x, xs[1]? = some x := ⟨_, List.getElem?_eq_getElem (by rw [hxl]; decide)⟩
 rw [e1] at g1
 simp only [Qcv, List.drop, List.take] at g1
 obtain ⟨a1, k1, w1⟩ := (Qb5 Try.underlying3) _ _ _ _ _ _ _ _ _ g1
 exact ⟨⟨a0, a1⟩, ⟨[c0], [c1], rfl, k0, k1⟩, ⟨w0, w1⟩⟩
def QcG (x : Qba) : Prop := In64 x.f0 ∧ In64 x.f1 ∧ (x.f2.length ≤ 9223372036854775807 ∧ ∀ y ∈ x.f2, QcB y) ∧ (x.f3.length ≤ 9223372036854775807 ∧ ∀ y ∈ x.f3, QcB y) ∧ In64 x.f4 ∧ True
set_option maxHeartbeats 1000000 in
theorem opens_laws_Call : Opens QbW QcG 148 := by
 intro H enc w base spare held fuel cs x h
 obtain ⟨xs, n, -, -, hlen, hxl, hf⟩ := DataW.trod_struct Try.underlying148 h
 rw [cells_148] at hlen
 obtain ⟨c0, c1, c2, c3, c4, c5, rfl⟩ := list_6 cs hlen
 have g0 : DataW.trod enc Try.prog w base spare held n 3 ((List.drop 0 [c0, c1, c2, c3, c4, c5]).take (Try.prog.cellsOf 3)) = xs[0]? := hf 0 _ rfl
 obtain ⟨x0, e0⟩ : ∃ x, xs[0]? = some x := ⟨_, List.getElem?_eq_getElem (by rw [hxl]; decide)⟩
 rw [e0] at g0
 simp only [Qcv, List.drop, List.take] at g0
 obtain ⟨a0, k0, w0⟩ := (Qb5 Try.underlying3) _ _ _ _ _ _ _ _ _ g0
 have g1 : DataW.trod enc Try.prog w base spare held n 3 ((List.drop 1 [c0, c1, c2, c3, c4, c5]).take (Try.prog.cellsOf 3)) = xs[1]? := hf 1 _ rfl
 obtain ⟨x1, e1⟩ : ∃ x, xs[1]? = some x := ⟨_, List.getElem?_eq_getElem (by rw [hxl]; decide)⟩
 rw [e1] at g1
 simp only [Qcv, List.drop, List.take] at g1
 obtain ⟨a1, k1, w1⟩ := (Qb5 Try.underlying3) _ _ _ _ _ _ _ _ _ g1
 have g2 : DataW.trod enc Try.prog w base spare held n 59 ((List.drop 2 [c0, c1, c2, c3, c4, c5]).take (Try.prog.cellsOf 59)) = xs[2]? := hf 2 _ rfl
 obtain ⟨x2, e2⟩ : ∃ x, xs[2]? = some x := ⟨_, List.getElem?_eq_getElem (by rw [hxl]; decide)⟩
 rw [e2] at g2
 simp only [cells_59, List.drop, List.take] at g2
 obtain ⟨a2, k2, w2⟩ := (Qco Try.underlying59 cells_152 QcK) _ _ _ _ _ _ _ _ _ g2
 have g3 : DataW.trod enc Try.prog w base spare held n 59 ((List.drop 3 [c0, c1, c2, c3, c4, c5]).take (Try.prog.cellsOf 59)) = xs[3]? := hf 3 _ rfl
 obtain ⟨x3, e3⟩ : ∃ x, xs[3]? = some x := ⟨_, List.getElem?_eq_getElem (by rw [hxl]; decide)⟩
 rw [e3] at g3
 simp only [cells_59, List.drop, List.take] at g3
 obtain ⟨a3, k3, w3⟩ := (Qco Try.underlying59 cells_152 QcK) _ _ _ _ _ _ _ _ _ g3
 have g4 : DataW.trod enc Try.prog w base spare held n 3 ((List.drop 4 [c0, c1, c2, c3, c4, c5]).take (Try.prog.cellsOf 3)) = xs[4]? := hf 4 _ rfl
 obtain ⟨x4, e4⟩ : ∃ x, xs[4]? = some x := ⟨_, List.getElem?_eq_getElem (by rw [hxl]; decide)⟩
 rw [e4] at g4
 simp only [Qcv, List.drop, List.take] at g4
 obtain ⟨a4, k4, w4⟩ := (Qb5 Try.underlying3) _ _ _ _ _ _ _ _ _ g4
 have g5 : DataW.trod enc Try.prog w base spare held n 4 ((List.drop 5 [c0, c1, c2, c3, c4, c5]).take (Try.prog.cellsOf 4)) = xs[5]? := hf 5 _ rfl
 obtain ⟨x5, e5⟩ : ∃ x, xs[5]? = some x := ⟨_, List.getElem?_eq_getElem (by rw [hxl]; decide)⟩
 rw [e5] at g5
 simp only [cells_4, List.drop, List.take] at g5
 obtain ⟨a5, k5, w5⟩ := (opens_bool Try.underlying4) _ _ _ _ _ _ _ _ _ g5
 exact ⟨⟨a0, a1, a2, a3, a4, a5⟩, ⟨[c0], [c1, c2, c3, c4, c5], rfl, k0, ⟨[c1], [c2, c3, c4, c5], rfl, k1, ⟨[c2], [c3, c4, c5], rfl, k2, ⟨[c3], [c4, c5], rfl, k3, ⟨[c4], [c5], rfl, k4, k5⟩⟩⟩⟩⟩, ⟨w0, w1, w2, w3, w4, w5⟩⟩
def wf_laws_Heap (x : QbX) : Prop := (x.f0.length ≤ 9223372036854775807 ∧ ∀ y ∈ x.f0, QcG y) ∧ In64 x.f1 ∧ In64 x.f2 ∧ (x.f3.length ≤ 9223372036854775807 ∧ ∀ y ∈ x.f3, QcB y) ∧ In64 x.f4
set_option maxHeartbeats 1000000 in
theorem opens_laws_Heap : Opens k_laws_Heap wf_laws_Heap 61 := by
 intro H enc w base spare held fuel cs x h
 obtain ⟨xs, n, -, -, hlen, hxl, hf⟩ := DataW.trod_struct Try.underlying61 h
 rw [cells_61] at hlen
 obtain ⟨c0, c1, c2, c3, c4, rfl⟩ := list_5 cs hlen
 have g0 : DataW.trod enc Try.prog w base spare held n 58 ((List.drop 0 [c0, c1, c2, c3, c4]).take (Try.prog.cellsOf 58)) = xs[0]? := hf 0 _ rfl
 obtain ⟨x0, e0⟩ : ∃ x, xs[0]? = some x := ⟨_, List.getElem?_eq_getElem (by rw [hxl]; decide)⟩
 rw [e0] at g0
 simp only [cells_58, List.drop, List.take] at g0
 obtain ⟨a0, k0, w0⟩ := (Qco Try.underlying58 cells_148 opens_laws_Call) _ _ _ _ _ _ _ _ _ g0
 have g1 : DataW.trod enc Try.prog w base spare held n 3 ((List.drop 1 [c0, c1, c2, c3, c4]).take (Try.prog.cellsOf 3)) = xs[1]? := hf 1 _ rfl
 obtain ⟨x1, e1⟩ : ∃ x, xs[1]? = some x := ⟨_, List.getElem?_eq_getElem (by rw [hxl]; decide)⟩
 rw [e1] at g1
 simp only [Qcv, List.drop, List.take] at g1
 obtain ⟨a1, k1, w1⟩ := (Qb5 Try.underlying3) _ _ _ _ _ _ _ _ _ g1
 have g2 : DataW.trod enc Try.prog w base spare held n 3 ((List.drop 2 [c0, c1, c2, c3, c4]).take (Try.prog.cellsOf 3)) = xs[2]? := hf 2 _ rfl
 obtain ⟨x2, e2⟩ : ∃ x, xs[2]? = some x := ⟨_, List.getElem?_eq_getElem (by rw [hxl]; decide)⟩
 rw [e2] at g2
 simp only [Qcv, List.drop, List.take] at g2
 obtain ⟨a2, k2, w2⟩ := (Qb5 Try.underlying3) _ _ _ _ _ _ _ _ _ g2
 have g3 : DataW.trod enc Try.prog w base spare held n 59 ((List.drop 3 [c0, c1, c2, c3, c4]).take (Try.prog.cellsOf 59)) = xs[3]? := hf 3 _ rfl
 obtain ⟨x3, e3⟩ : ∃ x, xs[3]? = some x := ⟨_, List.getElem?_eq_getElem (by rw [hxl]; decide)⟩
 rw [e3] at g3
 simp only [cells_59, List.drop, List.take] at g3
 obtain ⟨a3, k3, w3⟩ := (Qco Try.underlying59 cells_152 QcK) _ _ _ _ _ _ _ _ _ g3
 have g4 : DataW.trod enc Try.prog w base spare held n 3 ((List.drop 4 [c0, c1, c2, c3, c4]).take (Try.prog.cellsOf 3)) = xs[4]? := hf 4 _ rfl
 obtain ⟨x4, e4⟩ : ∃ x, xs[4]? = some x := ⟨_, List.getElem?_eq_getElem (by rw [hxl]; decide)⟩
 rw [e4] at g4
 simp only [Qcv, List.drop, List.take] at g4
 obtain ⟨a4, k4, w4⟩ := (Qb5 Try.underlying3) _ _ _ _ _ _ _ _ _ g4
 exact ⟨⟨a0, a1, a2, a3, a4⟩, ⟨[c0], [c1, c2, c3, c4], rfl, k0, ⟨[c1], [c2, c3, c4], rfl, k1, ⟨[c2], [c3, c4], rfl, k2, ⟨[c3], [c4], rfl, k3, k4⟩⟩⟩⟩, ⟨w0, w1, w2, w3, w4⟩⟩
end Go.Proofs.Ytabcijheemjplaa.G
namespace Go.Proofs.Ytabcijheemjplaa.G
open Go.RowKit Go.Proofs.YtabcijheemjplaaW.PrintWords Go.Proofs.YtabcijheemjplaaW.PrintLast
theorem w64 {x : Int} (h0 : -9223372036854775808 ≤ x) (h1 : x ≤ 9223372036854775807) : wrap64 x = x := by unfold wrap64; omega
theorem Ev.ifp {α : Type} {c : Prop} [Decidable c] {f g : Nat → Option α} {r : α} (h : c) (k : Ev f r) : Ev (fun n => if c then f n else g n) r := by
 obtain ⟨K, hK⟩ := k
 exact ⟨K, fun n hn => by show (if c then f n else g n) = _; rw [if_pos h]; exact hK n hn⟩
theorem Ev.ifn {α : Type} {c : Prop} [Decidable c] {f g : Nat → Option α} {r : α} (h : ¬ c) (k : Ev g r) : Ev (fun n => if c then f n else g n) r := by
 obtain ⟨K, hK⟩ := k
 exact ⟨K, fun n hn => by show (if c then f n else g n) = _; rw [if_neg h]; exact hK n hn⟩
theorem Ev.bindc {α β : Type} {g : Option α} {f : Nat → α → Option β} {a : α} {r : β} (h : g = some a) (k : Ev (fun n => f n a) r) : Ev (fun n => g.bind (f n)) r := by
 subst h
 exact k
theorem Ev.bnd {α β : Type} {g : Nat → Option α} {f : Nat → α → Option β} {a : α} {r : β} (h : Ev g a) (k : Ev (fun n => f n a) r) : Ev (fun n => (g n).bind (f n)) r := Ev.bind h k
theorem Ev.unique {α : Type} {g : Nat → Option α} {r s : α} (h : Ev g r) (k : Ev g s) : r = s := by
 obtain ⟨K, hK⟩ := h
 obtain ⟨L, hL⟩ := k
 have a := hK (K + L) (by omega)
 have b := hL (K + L) (by omega)
 rw [a] at b
 exact Option.some.inj b
theorem ev_for {σ ρ : Type} (L : Nat → Int → σ → Option ρ) (n : Nat) (Inv : Nat → σ → Prop) (Post : ρ → Prop)
 (hstep : ∀ (i : Nat) s, i < n → Inv i s → (∃ r, Post r ∧ Ev (fun k => L k i s) r) ∨ ∃ s', Inv (i + 1) s' ∧ ∀ r, Ev (fun k => L k ((i : Int) + 1) s') r → Ev (fun k => L k i s) r)
 (hend : ∀ s, Inv n s → ∃ r, Post r ∧ Ev (fun k => L k n s) r) : ∀ (d i : Nat) s, n - i = d → i ≤ n → Inv i s → ∃ r, Post r ∧ Ev (fun k => L k i s) r := by
 intro d
 induction d with
 | zero =>
   intro i s hd hi hI
   obtain rfl : i = n := by omega
   exact hend s hI
 | succ d ih =>
   intro i s hd hi hI
   rcases hstep i s (by omega) hI with h | ⟨s', hI', hk⟩
   · exact h
   · obtain ⟨r, hp, hr⟩ := ih (i + 1) s' (by omega) (by omega) hI'
     exact ⟨r, hp, hk r (by have : ((i + 1 : Nat) : Int) = (i : Int) + 1 := by omega
                            rw [← this]; exact hr)⟩
theorem QcS {σ ρ : Type} (L : Nat → Int → σ → Option ρ) (n : Nat) (Inv : Nat → σ → Prop) (Post : ρ → Prop)
 (hstep : ∀ (i : Nat) s, i < n → Inv i s → (∃ r, Post r ∧ Ev (fun k => L k i s) r) ∨ ∃ s', Inv (i + 1) s' ∧ ∀ r, Ev (fun k => L k ((i : Int) + 1) s') r → Ev (fun k => L k i s) r)
 (hend : ∀ s, Inv n s → ∃ r, Post r ∧ Ev (fun k => L k n s) r) (s : σ) (h : Inv 0 s) : ∃ r, Post r ∧ Ev (fun k => L k 0 s) r :=
 ev_for L n Inv Post hstep hend n 0 s (by omega) (by omega) h
theorem ev_map {α β : Type} (L : Nat → List β → Int → Option (List β)) (x : List α) (g : α → β) (z : β)
 (hstep : ∀ (i : Nat) (hi : i < x.length) (ys : List β), ys.length = x.length → ∀ r, Ev (fun k => L k (ys.set i (g x[i])) ((i : Int) + 1)) r → Ev (fun k => L k ys i) r)
 (hend : ∀ ys, ys.length = x.length → Ev (fun k => L k ys x.length) ys) : Ev (fun k => L k (List.replicate x.length z) 0) (x.map g) := by
 obtain ⟨r, rfl, hr⟩ := QcS (σ := List β) (fun k i s => L k s i) x.length (fun i s => s.length = x.length ∧ ∀ (j : Nat) (hj : j < x.length), j < i → s[j]? = some (g x[j])) (fun r => r = x.map g)
  (fun i s hi ⟨hl, hs⟩ => .inr ⟨s.set i (g x[i]), ⟨by simpa using hl, fun j hj hji => by
   by_cases e : j = i
   · subst e
     rw [List.getElem?_set_self (by omega)]
   · rw [List.getElem?_set_ne (by omega)]
     exact hs j hj (by omega)⟩, fun r hr => hstep i hi s hl r hr⟩)
  (fun s ⟨hl, hs⟩ => ⟨s, by
   apply List.ext_getElem?
   intro j
   by_cases hj : j < x.length
   · rw [hs j hj hj]
     simp [hj]
   · rw [List.getElem?_eq_none (by omega), List.getElem?_eq_none (by simp; omega)], hend s hl⟩)
  (List.replicate x.length z) ⟨by simp, fun j hj h => absurd h (Nat.not_lt_zero _)⟩
 exact hr
theorem ev_all {ρ : Type} (L : Nat → Int → Option ρ) (n : Nat) (r : ρ) (hstep : ∀ (i : Nat), i < n → ∀ r, Ev (fun k => L k ((i : Int) + 1)) r → Ev (fun k => L k i) r) (hend : Ev (fun k => L k n) r) : Ev (fun k => L k 0) r := by
 obtain ⟨r', rfl, hr⟩ := QcS (σ := Unit) (fun k i _ => L k i) n (fun _ _ => True) (fun r' => r' = r) (fun i _ hi _ => .inr ⟨(), trivial, fun r hr => hstep i hi r hr⟩) (fun _ _ => ⟨r, rfl, hend⟩) () trivial
 exact hr
theorem rdget {α : Type} {l : List α} {i : Nat} {d : α} (h : i < l.length) : l.getD (i : Int).toNat d = l[i] := by
 rw [Int.toNat_natCast, List.getD_eq_getElem?_getD, List.getElem?_eq_getElem h]
 rfl
end Go.Proofs.Ytabcijheemjplaa.G
namespace Go.Proofs.Ytabcijheemjplaa.G
open Go.RowKit Go.Proofs.YtabcijheemjplaaW.PrintWords Go.Proofs.YtabcijheemjplaaW.PrintLast
def cOp (x : Qbw) : QaW := ⟨x.f0, x.f1⟩
def cMethod (x : Qa0) : Qai := ⟨x.f0, x.f1, x.f2.map cOp⟩
theorem rd_laws_Op_at {l : List Qbw} {i : Nat} (h : i < l.length) : Qb9 l i = l[i] := rdget h
theorem rd_impl_Op_at {l : List QaW} {i : Nat} (h : i < l.length) : QaH l i = l[i] := rdget h
theorem Qcp {l : List Qa0} {i : Nat} (h : i < l.length) : QaR l i = l[i] := rdget h
theorem Qcq {l : List Qai} {i : Nat} (h : i < l.length) : Qae l i = l[i] := rdget h
theorem szOpS_tells (l : List Qbw) (left : Int) (h0 : 0 ≤ left) (h1 : left ≤ 1048576) (hl : l.length ≤ 9223372036854775807) : ∃ t, Qcf.f l left = some t ∧ t ≤ left ∧ (0 ≤ t → (l.length : Int) ≤ left) := by
 unfold Qcf.f
 rw [w64 (by omega) (by omega)]
 split
 · exact ⟨-1, rfl, by omega, by omega⟩
 · exact ⟨_, rfl, by omega, by omega⟩
theorem szMethodS_tells (l : List Qa0) (left : Int) (h0 : 0 ≤ left) (h1 : left ≤ 1048576) (hw : l.length ≤ 9223372036854775807 ∧ ∀ m ∈ l, QcJ m) :
 ∃ t, (t ≤ left ∧ (0 ≤ t → (l.length : Int) ≤ left ∧ ∀ m ∈ l, (m.f2.length : Int) ≤ left)) ∧ Ev (fun k => QaL.f k l left) t := by
 unfold QaL.f
 rw [w64 (by omega) (by omega)]
 by_cases hneg : left - (l.length : Int) < 0
 · exact ⟨-1, ⟨by omega, by omega⟩, Ev.ifp hneg (Ev.now _)⟩
 · obtain ⟨r, hp, hr⟩ := QcS (σ := Int) (fun k i s => QaL.l0 k l s i) l.length (fun i s => 0 ≤ s ∧ s ≤ left - l.length ∧ ∀ (j : Nat) (hj : j < l.length), j < i → (l[j].f2.length : Int) ≤ left)
    (fun t => t ≤ left ∧ (0 ≤ t → ∀ m ∈ l, (m.f2.length : Int) ≤ left))
    (fun i s hi ⟨hs0, hs1, hs2⟩ => by
     obtain ⟨t, ht, htl, htp⟩ := szOpS_tells l[i].f2 s hs0 (by omega) (hw.2 _ (List.getElem_mem hi)).2.2.1
     have hm : Qb4.f l[i].f0 l[i].f1 l[i].f2 s = some (if t < 0 then -1 else t) := by
      unfold Qb4.f
      rw [ht]
      simp only [Option.bind_some]
      split <;> rfl
     by_cases hn : t < 0
     · refine .inl ⟨-1, ⟨by omega, by omega⟩, ?_⟩
       refine Ev.step (fun k => by rw [QaL.l0]) ?_
       refine Ev.ifp (by omega) (Ev.ifp (by omega) ?_)
       rw [Qcp hi, hm, if_pos hn]
       exact Ev.now _
     · refine .inr ⟨t, ⟨by omega, by omega, fun j hj hji => ?_⟩, fun r hr => ?_⟩
       · by_cases e : j = i
         · subst e
           have := htp (by omega)
           omega
         · exact hs2 j hj (by omega)
       · refine Ev.step (fun k => by rw [QaL.l0]) ?_
         refine Ev.ifp (by omega) (Ev.ifp (by omega) ?_)
         rw [Qcp hi, hm, if_neg hn]
         simp only [Option.bind_some, if_neg hn]
         rw [w64 (by omega) (by omega)]
         exact hr)
    (fun s ⟨hs0, hs1, hs2⟩ => ⟨s, ⟨by omega, fun _ m hm => by
     obtain ⟨j, hj, rfl⟩ := List.mem_iff_getElem.mp hm
     exact hs2 j hj hj⟩, Ev.step (fun k => by rw [QaL.l0]) (Ev.ifn (by omega) (Ev.now _))⟩)
    (left - l.length) ⟨by omega, by omega, fun j hj h => absurd h (Nat.not_lt_zero _)⟩
   exact ⟨r, ⟨hp.1, fun h => ⟨by omega, hp.2 h⟩⟩, Ev.ifn hneg hr⟩
def few (l : List Qa0) : Prop := l.length ≤ 1048576 ∧ ∀ m ∈ l, m.f2.length ≤ 1048576
theorem szProg_tells (l : List Qa0) (left : Int) (h0 : 0 ≤ left) (h1 : left ≤ 1048576) (hw : wf_laws_Prog ⟨l⟩) :
 ∃ t, (t ≤ left ∧ (0 ≤ t → few l)) ∧ Ev (fun k => Qbs.f k l left) t := by
 obtain ⟨t, ⟨htl, htp⟩, ht⟩ := szMethodS_tells l left h0 h1 hw
 unfold Qbs.f
 by_cases hn : t < 0
 · exact ⟨-1, ⟨by omega, by omega⟩, Ev.bnd ht (Ev.ifp hn (Ev.now _))⟩
 · refine ⟨t, ⟨htl, fun h => ?_⟩, Ev.bnd ht (Ev.ifn hn (Ev.now _))⟩
   obtain ⟨a, b⟩ := htp h
   exact ⟨by omega, fun m hm => by have := b m hm; omega⟩
theorem toOpS_tells (l : List Qbw) (hl : l.length ≤ 1048576) : Ev (fun k => Qbb.f k l) (l.map cOp) := by
 unfold Qbb.f
 refine Ev.ifp (by omega) (Ev.ifp (by omega) ?_)
 rw [Int.toNat_natCast]
 refine ev_map (fun k s i => Qbb.l0 k l s i) l cOp Qca (fun i hi ys hy r hr => ?_) (fun ys hy => ?_)
 · refine Ev.step (fun k => by rw [Qbb.l0]) ?_
   refine Ev.ifp (by omega) (Ev.ifp (by omega) ?_)
   rw [rd_laws_Op_at hi]
   refine Ev.bindc rfl (Ev.ifp (by omega) ?_)
   rw [w64 (by omega) (by omega), Int.toNat_natCast]
   exact hr
 · exact Ev.step (fun k => by rw [Qbb.l0]) (Ev.ifn (by omega) (Ev.now _))
theorem toMethodS_tells (l : List Qa0) (hl : few l) : Ev (fun k => QaM.f k l) (l.map cMethod) := by
 unfold QaM.f
 have hl1 := hl.1
 refine Ev.ifp (by omega) (Ev.ifp (by omega) ?_)
 rw [Int.toNat_natCast]
 refine ev_map (fun k s i => QaM.l0 k l s i) l cMethod QbH (fun i hi ys hy r hr => ?_) (fun ys hy => ?_)
 · refine Ev.step (fun k => by rw [QaM.l0]) ?_
   refine Ev.ifp (by omega) (Ev.ifp (by omega) ?_)
   rw [Qcp hi]
   refine Ev.bnd (a := (l[i].f0, l[i].f1, l[i].f2.map cOp)) ?_ (Ev.ifp (by omega) ?_)
   · unfold Qby.f
     exact Ev.bnd (toOpS_tells _ (hl.2 _ (List.getElem_mem hi))) (Ev.now _)
   · rw [w64 (by omega) (by omega), Int.toNat_natCast]
     exact hr
 · exact Ev.step (fun k => by rw [QaM.l0]) (Ev.ifn (by omega) (Ev.now _))
theorem toProg_tells (l : List Qa0) (hl : few l) : Ev (fun k => QaT.f k l) (l.map cMethod) := by
 unfold QaT.f
 exact Ev.bnd (toMethodS_tells l hl) (Ev.now _)
def fewI (l : List Qai) : Prop := l.length ≤ 1048576 ∧ ∀ m ∈ l, m.f2.length ≤ 1048576
theorem few_map {l : List Qa0} (h : few l) : fewI (l.map cMethod) := by
 refine ⟨by simpa using h.1, fun m hm => ?_⟩
 obtain ⟨x, hx, rfl⟩ := List.mem_map.mp hm
 simpa [cMethod] using h.2 x hx
theorem eqOpS_self (l : List QaW) (hl : l.length ≤ 1048576) : Ev (fun k => QaX.f k l l) true := by
 unfold QaX.f
 refine Ev.ifp rfl ?_
 refine ev_all (fun k i => QaX.l0 k l l i) l.length true (fun i hi r hr => ?_) ?_
 · refine Ev.step (fun k => by rw [QaX.l0]) ?_
   refine Ev.ifp (by omega) (Ev.ifp (by omega) (Ev.ifp (by omega) (Ev.bindc (a := true) ?_ (Ev.ifp rfl ?_))))
   · unfold QcO.f
     rw [if_pos rfl, if_pos rfl]
   · rw [w64 (by omega) (by omega)]
     exact hr
 · exact Ev.step (fun k => by rw [QaX.l0]) (Ev.ifn (by omega) (Ev.now _))
theorem eqMethodS_self (l : List Qai) (hl : fewI l) : Ev (fun k => QaA.f k l l) true := by
 unfold QaA.f
 have hl1 := hl.1
 refine Ev.ifp rfl ?_
 refine ev_all (fun k i => QaA.l0 k l l i) l.length true (fun i hi r hr => ?_) ?_
 · refine Ev.step (fun k => by rw [QaA.l0]) ?_
   refine Ev.ifp (by omega) (Ev.ifp (by omega) (Ev.ifp (by omega) (Ev.bnd (a := true) ?_ (Ev.ifp rfl ?_))))
   · unfold Qbu.f
     rw [Qcq hi]
     exact Ev.ifp rfl (Ev.ifp rfl (Ev.bnd (eqOpS_self _ (hl.2 _ (List.getElem_mem hi))) (Ev.ifp rfl (Ev.now _))))
   · rw [w64 (by omega) (by omega)]
     exact hr
 · exact Ev.step (fun k => by rw [QaA.l0]) (Ev.ifn (by omega) (Ev.now _))
theorem eqProg_self (l : List Qai) (hl : fewI l) : Ev (fun k => Qbj.f k l l) true := by
 unfold Qbj.f
 exact Ev.bnd (eqMethodS_self l hl) (Ev.ifp rfl (Ev.now _))
end Go.Proofs.Ytabcijheemjplaa.G
namespace Go.Proofs.Ytabcijheemjplaa.G
set_option linter.unusedVariables false
open Go.RowKit Go.Proofs.YtabcijheemjplaaW.PrintWords Go.Proofs.YtabcijheemjplaaW.PrintLast
def cVal (x : Qa8) : Qao := ⟨x.f0, x.f1⟩
theorem rd_laws_Val_at {l : List Qa8} {i : Nat} (h : i < l.length) : Qb3 l i = l[i] := rdget h
theorem rd_impl_Val_at {l : List Qao} {i : Nat} (h : i < l.length) : Qaw l i = l[i] := rdget h
theorem eqVal_self (x : Qao) : Ev (fun k => Qcn.f x.f0 x.f1 x.f0 x.f1) true := by
 unfold Qcn.f
 exact (Ev.ifp rfl (Ev.ifp rfl (Ev.now _)))
theorem szValS_tells (l : List Qa8) (left : Int) (h0 : 0 ≤ left) (h1 : left ≤ 1048576) (hw : l.length ≤ 9223372036854775807 ∧ ∀ y ∈ l, QcB y) :
 ∃ t, (t ≤ left ∧ (0 ≤ t → l.length ≤ 1048576)) ∧ Ev (fun k => Qbq.f l left) t := by
 unfold Qbq.f
 have hw1 := hw.1
 rw [w64 (by omega) (by omega)]
 by_cases hneg : left - (l.length : Int) < 0
 · exact ⟨-1, ⟨by omega, by omega⟩, Ev.ifp hneg (Ev.now _)⟩
 · exact ⟨_, ⟨by omega, fun h => by omega⟩, Ev.ifn hneg (Ev.now _)⟩
theorem toValS_tells (l : List Qa8) (hs : l.length ≤ 1048576) : Ev (fun k => QaS.f k l) (l.map cVal) := by
 unfold QaS.f
 have hl := hs
 refine Ev.ifp (by omega) (Ev.ifp (by omega) ?_)
 rw [Int.toNat_natCast]
 refine ev_map (fun k s i => QaS.l0 k l s i) l cVal Qb6 (fun i hi ys hy r hr => ?_) (fun ys hy => ?_)
 · refine Ev.step (fun k => by rw [QaS.l0]) ?_
   refine Ev.ifp (by omega) (Ev.ifp (by omega) ?_)
   rw [rd_laws_Val_at hi]
   refine Ev.bindc rfl (Ev.ifp (by omega) ?_)
   rw [w64 (by omega) (by omega), Int.toNat_natCast]
   exact hr
 · exact Ev.step (fun k => by rw [QaS.l0]) (Ev.ifn (by omega) (Ev.now _))
theorem eqValS_self (l : List Qao) (hs : l.length ≤ 1048576) : Ev (fun k => Qaz.f k l l) true := by
 unfold Qaz.f
 have hl := hs
 refine Ev.ifp rfl ?_
 refine ev_all (fun k i => Qaz.l0 k l l i) l.length true (fun i hi r hr => ?_) ?_
 · refine Ev.step (fun k => by rw [Qaz.l0]) ?_
   refine Ev.ifp (by omega) (Ev.ifp (by omega) (Ev.ifp (by omega) ?_))
   rw [rd_impl_Val_at hi]
   refine Ev.bnd (eqVal_self l[i]) (Ev.ifp rfl ?_)
   rw [w64 (by omega) (by omega)]
   exact hr
 · exact Ev.step (fun k => by rw [Qaz.l0]) (Ev.ifn (by omega) (Ev.now _))
def cCall (x : Qba) : Qas := ⟨x.f0, x.f1, (x.f2.map cVal), (x.f3.map cVal), x.f4, x.f5⟩
theorem QcC {l : List Qba} {i : Nat} (h : i < l.length) : Qay l i = l[i] := rdget h
theorem rd_impl_Call_at {l : List Qas} {i : Nat} (h : i < l.length) : Qaa l i = l[i] := rdget h
def Qcg (x : Qba) : Prop := x.f2.length ≤ 1048576 ∧ x.f3.length ≤ 1048576
def QcT (x : Qas) : Prop := x.f2.length ≤ 1048576 ∧ x.f3.length ≤ 1048576
theorem smallI_of_Call {x : Qba} (h : Qcg x) : QcT (cCall x) := ⟨(by simpa [cCall] using h.1), (by simpa [cCall] using h.2)⟩
theorem szCall_tells (x : Qba) (left : Int) (h0 : 0 ≤ left) (h1 : left ≤ 1048576) (hw : QcG x) :
 ∃ t, (t ≤ left ∧ (0 ≤ t → Qcg x)) ∧ Ev (fun k => Qcd.f x.f0 x.f1 x.f2 x.f3 x.f4 x.f5 left) t := by
 unfold Qcd.f
 obtain ⟨t0, ⟨l0, p0⟩, e0⟩ := szValS_tells x.f2 left (by omega) (by omega) hw.2.2.1
 by_cases n0 : t0 < 0
 · exact ⟨-1, ⟨by omega, by omega⟩, (Ev.bnd e0 (Ev.ifp n0 (Ev.now _)))⟩
 · skip
   obtain ⟨t1, ⟨l1, p1⟩, e1⟩ := szValS_tells x.f3 t0 (by omega) (by omega) hw.2.2.2.1
   by_cases n1 : t1 < 0
   · exact ⟨-1, ⟨by omega, by omega⟩, (Ev.bnd e0 (Ev.ifn n0 (Ev.bnd e1 (Ev.ifp n1 (Ev.now _)))))⟩
   · exact ⟨t1, ⟨by omega, fun h => ⟨p0 (by omega), p1 (by omega)⟩⟩, (Ev.bnd e0 (Ev.ifn n0 (Ev.bnd e1 (Ev.ifn n1 (Ev.now _)))))⟩
theorem toCall_tells (x : Qba) (hs : Qcg x) : Ev (fun k => QbE.f k x.f0 x.f1 x.f2 x.f3 x.f4 x.f5) (x.f0, x.f1, (x.f2.map cVal), (x.f3.map cVal), x.f4, x.f5) := by
 unfold QbE.f
 exact (Ev.bnd (toValS_tells x.f2 hs.1) (Ev.bnd (toValS_tells x.f3 hs.2) (Ev.now _)))
theorem eqCall_self (x : Qas) (hs : QcT x) : Ev (fun k => QbC.f k x.f0 x.f1 x.f2 x.f3 x.f4 x.f5 x.f0 x.f1 x.f2 x.f3 x.f4 x.f5) true := by
 unfold QbC.f
 exact (Ev.ifp rfl (Ev.ifp rfl (Ev.bnd (eqValS_self x.f2 hs.1) (Ev.ifp rfl (Ev.bnd (eqValS_self x.f3 hs.2) (Ev.ifp rfl (Ev.ifp rfl (Ev.ifn (by simp) (Ev.now _)))))))))
theorem szCallS_tells (l : List Qba) (left : Int) (h0 : 0 ≤ left) (h1 : left ≤ 1048576) (hw : l.length ≤ 9223372036854775807 ∧ ∀ y ∈ l, QcG y) :
 ∃ t, (t ≤ left ∧ (0 ≤ t → (l.length ≤ 1048576 ∧ ∀ y ∈ l, Qcg y))) ∧ Ev (fun k => QaY.f k l left) t := by
 unfold QaY.f
 have hw1 := hw.1
 rw [w64 (by omega) (by omega)]
 by_cases hneg : left - (l.length : Int) < 0
 · exact ⟨-1, ⟨by omega, by omega⟩, Ev.ifp hneg (Ev.now _)⟩
 · obtain ⟨r, hp, hr⟩ := QcS (σ := Int) (fun k i s => QaY.l0 k l s i) l.length (fun i s => 0 ≤ s ∧ s ≤ left - l.length ∧ ∀ (j : Nat) (hj : j < l.length), j < i → Qcg l[j])
    (fun t => t ≤ left ∧ (0 ≤ t → ∀ y ∈ l, Qcg y))
    (fun i s hi ⟨hs0, hs1, hs2⟩ => by
     obtain ⟨t, ⟨htl, htp⟩, ht⟩ := szCall_tells l[i] s hs0 (by omega) (hw.2 _ (List.getElem_mem hi))
     by_cases hn : t < 0
     · refine .inl ⟨-1, ⟨by omega, by omega⟩, ?_⟩
       refine Ev.step (fun k => by rw [QaY.l0]) ?_
       refine Ev.ifp (by omega) (Ev.ifp (by omega) ?_)
       rw [QcC hi]
       exact Ev.bnd ht (Ev.ifp hn (Ev.now _))
     · refine .inr ⟨t, ⟨by omega, by omega, fun j hj hji => ?_⟩, fun r hr => ?_⟩
       · by_cases e : j = i
         · subst e
           exact htp (by omega)
         · exact hs2 j hj (by omega)
       · refine Ev.step (fun k => by rw [QaY.l0]) ?_
         refine Ev.ifp (by omega) (Ev.ifp (by omega) ?_)
         rw [QcC hi]
         refine Ev.bnd ht (Ev.ifn hn ?_)
         rw [w64 (by omega) (by omega)]
         exact hr)
    (fun s ⟨hs0, hs1, hs2⟩ => ⟨s, ⟨by omega, fun _ m hm => by
     obtain ⟨j, hj, rfl⟩ := List.mem_iff_getElem.mp hm
     exact hs2 j hj hj⟩, Ev.step (fun k => by rw [QaY.l0]) (Ev.ifn (by omega) (Ev.now _))⟩)
    (left - l.length) ⟨by omega, by omega, fun j hj h => absurd h (Nat.not_lt_zero _)⟩
   exact ⟨r, ⟨hp.1, fun h => ⟨by omega, hp.2 h⟩⟩, Ev.ifn hneg hr⟩
theorem toCallS_tells (l : List Qba) (hs : (l.length ≤ 1048576 ∧ ∀ y ∈ l, Qcg y)) : Ev (fun k => QaZ.f k l) (l.map cCall) := by
 unfold QaZ.f
 have hl := hs.1
 refine Ev.ifp (by omega) (Ev.ifp (by omega) ?_)
 rw [Int.toNat_natCast]
 refine ev_map (fun k s i => QaZ.l0 k l s i) l cCall QbY (fun i hi ys hy r hr => ?_) (fun ys hy => ?_)
 · refine Ev.step (fun k => by rw [QaZ.l0]) ?_
   refine Ev.ifp (by omega) (Ev.ifp (by omega) ?_)
   rw [QcC hi]
   refine Ev.bnd (toCall_tells l[i] (hs.2 _ (List.getElem_mem hi))) (Ev.ifp (by omega) ?_)
   rw [w64 (by omega) (by omega), Int.toNat_natCast]
   exact hr
 · exact Ev.step (fun k => by rw [QaZ.l0]) (Ev.ifn (by omega) (Ev.now _))
theorem eqCallS_self (l : List Qas) (hs : (l.length ≤ 1048576 ∧ ∀ y ∈ l, QcT y)) : Ev (fun k => QaD.f k l l) true := by
 unfold QaD.f
 have hl := hs.1
 refine Ev.ifp rfl ?_
 refine ev_all (fun k i => QaD.l0 k l l i) l.length true (fun i hi r hr => ?_) ?_
 · refine Ev.step (fun k => by rw [QaD.l0]) ?_
   refine Ev.ifp (by omega) (Ev.ifp (by omega) (Ev.ifp (by omega) ?_))
   rw [rd_impl_Call_at hi]
   refine Ev.bnd (eqCall_self l[i] (hs.2 _ (List.getElem_mem hi))) (Ev.ifp rfl ?_)
   rw [w64 (by omega) (by omega)]
   exact hr
 · exact Ev.step (fun k => by rw [QaD.l0]) (Ev.ifn (by omega) (Ev.now _))
structure IHeap where
 f0 : List Qas
 f1 : Int
 f2 : Int
 f3 : List Qao
 f4 : Int
def cHeap (x : QbX) : IHeap := ⟨(x.f0.map cCall), x.f1, x.f2, (x.f3.map cVal), x.f4⟩
def small_Heap (x : QbX) : Prop := (x.f0.length ≤ 1048576 ∧ ∀ y ∈ x.f0, Qcg y) ∧ x.f3.length ≤ 1048576
def smallI_Heap (x : IHeap) : Prop := (x.f0.length ≤ 1048576 ∧ ∀ y ∈ x.f0, QcT y) ∧ x.f3.length ≤ 1048576
theorem smallI_of_Heap {x : QbX} (h : small_Heap x) : smallI_Heap (cHeap x) := ⟨⟨by simpa [cHeap] using h.1.1, fun y hy => by
 obtain ⟨z, hz, rfl⟩ := List.mem_map.mp hy
 exact smallI_of_Call (h.1.2 z hz)⟩, (by simpa [cHeap] using h.2)⟩
theorem szHeap_tells (x : QbX) (left : Int) (h0 : 0 ≤ left) (h1 : left ≤ 1048576) (hw : wf_laws_Heap x) :
 ∃ t, (t ≤ left ∧ (0 ≤ t → small_Heap x)) ∧ Ev (fun k => Qbr.f k x.f0 x.f1 x.f2 x.f3 x.f4 left) t := by
 unfold Qbr.f
 obtain ⟨t0, ⟨l0, p0⟩, e0⟩ := szCallS_tells x.f0 left (by omega) (by omega) hw.1
 by_cases n0 : t0 < 0
 · exact ⟨-1, ⟨by omega, by omega⟩, (Ev.bnd e0 (Ev.ifp n0 (Ev.now _)))⟩
 · skip
   obtain ⟨t1, ⟨l1, p1⟩, e1⟩ := szValS_tells x.f3 t0 (by omega) (by omega) hw.2.2.2.1
   by_cases n1 : t1 < 0
   · exact ⟨-1, ⟨by omega, by omega⟩, (Ev.bnd e0 (Ev.ifn n0 (Ev.bnd e1 (Ev.ifp n1 (Ev.now _)))))⟩
   · exact ⟨t1, ⟨by omega, fun h => ⟨p0 (by omega), p1 (by omega)⟩⟩, (Ev.bnd e0 (Ev.ifn n0 (Ev.bnd e1 (Ev.ifn n1 (Ev.now _)))))⟩
theorem toHeap_tells (x : QbX) (hs : small_Heap x) : Ev (fun k => QaK.f k x.f0 x.f1 x.f2 x.f3 x.f4) ((x.f0.map cCall), x.f1, x.f2, (x.f3.map cVal), x.f4) := by
 unfold QaK.f
 exact (Ev.bnd (toCallS_tells x.f0 hs.1) (Ev.bnd (toValS_tells x.f3 hs.2) (Ev.now _)))
theorem eqHeap_self (x : IHeap) (hs : smallI_Heap x) : Ev (fun k => Qbf.f k x.f0 x.f1 x.f2 x.f3 x.f4 x.f0 x.f1 x.f2 x.f3 x.f4) true := by
 unfold Qbf.f
 exact (Ev.bnd (eqCallS_self x.f0 hs.1) (Ev.ifp rfl (Ev.ifp rfl (Ev.ifp rfl (Ev.bnd (eqValS_self x.f3 hs.2) (Ev.ifp rfl (Ev.ifp rfl (Ev.now _))))))))
end Go.Proofs.Ytabcijheemjplaa.G
