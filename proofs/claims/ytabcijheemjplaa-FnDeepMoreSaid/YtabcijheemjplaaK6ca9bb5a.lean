import Derived.Test.YtabcijheemjplaaProg
import Derived.Below
import Derived.Deep.Draws
import Derived.Deep.AppendLies
import Derived.Maps.AppendAt
import Derived.OwnWalk
import Derived.Laws.BytesArg
import Derived.Laws.MakeOwn
import Derived.Laws.OwnMore
import Derived.Deep.OwnRows
import Derived.Tactics
import Derived.Lib.ConvBytes
import Derived.Laws.Slices
import Derived.WalkKit
import Derived.KernelRfl
import Derived.RowKit3
import Derived.Deep.LoopGhost
import Derived.Deep.QuietTactic
import Derived.BigQuiet
import Derived.WideLaws
import Derived.Deep.DeepCutAuto
import Derived.Deep.CutBlock
import Derived.Deep.RegionHeld3
import Derived.Laws.Rows
import Derived.Lib.AppendStr
import Derived.ArgAppend
import Derived.Laws.IdiomCopy
import Derived.OrdersHeld
import Derived.Laws.BitsLemmas
import Derived.RowKit
import Derived.Test.YtabcijheemjplaaK8366b71a
namespace Go.Proofs.Ytabcijheemjplaa.G
open Go.RowKit Go.Proofs.YtabcijheemjplaaW.PrintWords Go.Proofs.YtabcijheemjplaaW.PrintLast Go.Proofs.YtabcijheemjplaaW.PrintMore
attribute [local go_sem] QaQ QaR Qa3 Qa4 QaJ QaK QaS QaT
set_option linter.unusedVariables false
set_option linter.unusedSimpArgs false
def errW : Option Int → Value
 | none => .nilIface
 | some c => .iface 0 (.int .i64 c)
theorem Qan : errW none = .nilIface := rfl
theorem Qao (c : Int) : errW (some c) = .iface 0 (.int .i64 c) := rfl
theorem info3 : (Try.prog.info? 3).map (fun i => (i.zero, i.size, i.bytes)) = some (some (.int .i64 0), 1, 8) := by kernel_rfl
theorem info5 : (Try.prog.info? 5).map (fun i => (i.zero, i.size, i.bytes)) = some (some (.int .u8 0), 1, 1) := by kernel_rfl
theorem info34 : (Try.prog.info? 34).map (fun i => (i.zero, i.size, i.bytes)) = some (some (.agg #[(.int .i64 0), (.int .i64 0), (.slice none 0 0)]), 3, 40) := by kernel_rfl
theorem QbO : (Try.prog.info? 83).map (fun i => (i.zero, i.size, i.bytes)) = some (some (.agg #[(.int .i64 0), (.int .i64 0)]), 2, 16) := by kernel_rfl
structure S_laws_Op where
 f0 : Int
 f1 : Int
structure S_laws_Method where
 f0 : Int
 f1 : Int
 f2 : (List S_laws_Op)
structure Qac where
 f0 : Int
 f1 : Int
def z_impl_Op : Qac := ⟨(0 : Int), (0 : Int)⟩
def QaB : Kd Qac := Kd.iso (Kd.pair (Kd.int .i64) (Kd.int .i64)) (fun x : Qac => (x.f0, x.f1))
theorem Qck {w : World} {x : Qac} {cs : List Value} (h : QaB.K w x cs) : cs = [.int .i64 x.f0, .int .i64 x.f1] := by
 obtain ⟨_, _, rfl, rfl, rfl⟩ := h
 exact rfl
theorem k_impl_Op_openM {w : World} {base : Nat} {ok : Nat → Prop} {x : Qac} {cs : List Value} (h : QaB.M w base ok x cs) : cs = [.int .i64 x.f0, .int .i64 x.f1] := by
 obtain ⟨_, _, rfl, rfl, rfl⟩ := h
 exact rfl
theorem k_impl_Op_mk (w : World) (x : Qac)  : QaB.K w x [.int .i64 x.f0, .int .i64 x.f1] := ⟨[.int .i64 x.f0], [.int .i64 x.f1], rfl, rfl, rfl⟩
theorem Qa0 (w : World) (base : Nat) (ok : Nat → Prop) (x : Qac)  : QaB.M w base ok x [.int .i64 x.f0, .int .i64 x.f1] := ⟨[.int .i64 x.f0], [.int .i64 x.f1], rfl, rfl, rfl⟩
def Qah (xs : List Qac) (i : Int) : Qac := xs.getD i.toNat z_impl_Op
theorem QbJ {w : World} {A : Option Addr} {n : Nat} {xs : List Qac} (h : Kd.C QaB w A n xs) (i : Int) (h0 : 0 ≤ i) (h1 : i < n) : ∃ ad , A = some ad ∧ w.cell? (ad.add (i.toNat * 2)) = some (.int .i64 (Qah xs i).f0) ∧ w.cell? ⟨(ad.add (i.toNat * 2)).block, (ad.add (i.toNat * 2)).off + 1, none⟩ = some (.int .i64 (Qah xs i).f1) := by
 obtain ⟨ad, c, e, _, hK, hc0⟩ := Kd.C_get h z_impl_Op i h0 h1
 have hc : ∀ j u, c[j]? = some u → w.cell? (ad.add (i.toNat * 2 + j)) = some u := hc0
 obtain rfl := Qck hK
 exact ⟨ad, e, hc 0 _ rfl, by rw [← add_field _ _ 1 (by omega)]; exact hc 1 _ rfl⟩
structure Qae where
 f0 : Int
 f1 : Int
 f2 : (List Qac)
def QbH : Qae := ⟨(0 : Int), (0 : Int), ([] : List Qac)⟩
def QaD : Kd Qae := Kd.iso (Kd.pair (Kd.int .i64) (Kd.pair (Kd.int .i64) (Kd.slice 83 QaB))) (fun x : Qae => (x.f0, x.f1, x.f2))
theorem Qci {w : World} {x : Qae} {cs : List Value} (h : QaD.K w x cs) : ∃ A2 c2, cs = [.int .i64 x.f0, .int .i64 x.f1, .slice A2 x.f2.length c2] ∧ x.f2.length ≤ c2 ∧ QaB.C w A2 x.f2.length x.f2 := by
 obtain ⟨_, _, rfl, rfl, ⟨_, _, rfl, rfl, ⟨A2, c2, rfl, l2, g2⟩⟩⟩ := h
 exact ⟨A2, c2, rfl, l2, g2⟩
theorem k_impl_Method_mk (w : World) (x : Qae) {A2 : Option Addr} {c2 : Nat} (l2 : x.f2.length ≤ c2) (g2 : QaB.C w A2 x.f2.length x.f2) : QaD.K w x [.int .i64 x.f0, .int .i64 x.f1, .slice A2 x.f2.length c2] := ⟨[.int .i64 x.f0], [.int .i64 x.f1, .slice A2 x.f2.length c2], rfl, rfl, ⟨[.int .i64 x.f1], [.slice A2 x.f2.length c2], rfl, rfl, ⟨A2, c2, rfl, l2, g2⟩⟩⟩
theorem k_impl_Method_mkM (w : World) (base : Nat) (ok : Nat → Prop) (x : Qae) {v2 : Value} (g2 : QaB.R 83 w base ok v2 x.f2) : QaD.M w base ok x [.int .i64 x.f0, .int .i64 x.f1, v2] := ⟨[.int .i64 x.f0], [.int .i64 x.f1, v2], rfl, rfl, ⟨[.int .i64 x.f1], [v2], rfl, rfl, ⟨v2, rfl, g2⟩⟩⟩
theorem k_impl_Method_mkF (W : World) (ok : Nat → Prop) (x : Qae) {A2 : Option Addr} {c2 : Nat} (l2 : x.f2.length ≤ c2) (g2 : Kd.F QaB W ok A2 x.f2.length x.f2) : Kd.FK QaD W ok x [.int .i64 x.f0, .int .i64 x.f1, .slice A2 x.f2.length c2] := fun W2 hW => k_impl_Method_mk W2 x l2 (g2 W2 hW)
def Qaa (xs : List Qae) (i : Int) : Qae := xs.getD i.toNat QbH
theorem Qba {w : World} {A : Option Addr} {n : Nat} {xs : List Qae} (h : Kd.C QaD w A n xs) (i : Int) (h0 : 0 ≤ i) (h1 : i < n) : ∃ ad A2 c2, A = some ad ∧ w.cell? (ad.add (i.toNat * 3)) = some (.int .i64 (Qaa xs i).f0) ∧ w.cell? ⟨(ad.add (i.toNat * 3)).block, (ad.add (i.toNat * 3)).off + 1, none⟩ = some (.int .i64 (Qaa xs i).f1) ∧ w.cell? ⟨(ad.add (i.toNat * 3)).block, (ad.add (i.toNat * 3)).off + 2, none⟩ = some (.slice A2 (Qaa xs i).f2.length c2) ∧ (Qaa xs i).f2.length ≤ c2 ∧ QaB.C w A2 (Qaa xs i).f2.length (Qaa xs i).f2 := by
 obtain ⟨ad, c, e, _, hK, hc0⟩ := Kd.C_get h QbH i h0 h1
 have hc : ∀ j u, c[j]? = some u → w.cell? (ad.add (i.toNat * 3 + j)) = some u := hc0
 obtain ⟨A2, c2, rfl, l2, g2⟩ := Qci hK
 exact ⟨ad, A2, c2, e, hc 0 _ rfl, by rw [← add_field _ _ 1 (by omega)]; exact hc 1 _ rfl, by rw [← add_field _ _ 2 (by omega)]; exact hc 2 _ rfl, l2, g2⟩
structure Qcc where
 f0 : Int
 f1 : Int
structure S_impl_Call where
 f0 : Int
 f1 : Int
 f2 : (List Qcc)
 f3 : (List Qcc)
 f4 : Int
 f5 : Bool
theorem pu_ {P : Program} {md : Region.Mode} {ops : Array Oper} {Q : Exit → Act → World → Prop} {S : World → Prop} {ds : List Nat} {oi : Oper} {fuel : Nat} {l : Array Bool} {a a' : Act} {w : World} {v : Value} (i : Nat) (N : Option Tmp) (l' : Array Bool) (hi : ops[i]? = some oi) (hN : oi.dst = N) (h : QaO P md ops Q S ds fuel l' a' w) (hc : anyB md ops l l' i = true := by first | exact any_of HT_.out (by kernel_rfl) | kernel_rfl) (hy : Yields P ops oi v a := by exact Or.inl ⟨by rfl, by (intro w'; go_simp; with_reducible rfl)⟩) (ha : a.put N v = a' := by (simp only [Act.put, List.setIfInBounds_toArray, List.set_cons_zero, List.set_cons_succ, Qbb, Qbd]; rfl)) (hQ : ∀ c a w, Q (.panic c) (a.put oi.dst v) w → Q (.panic c) a w := by exact fun _ _ _ h => h) : QaO P md ops Q S ds (fuel + 1) l a w := pure_ l' hi hN hc hQ hy ha h
theorem tk_ {P : Program} {md : Region.Mode} {ops : Array Oper} {Q : Exit → Act → World → Prop} {S : World → Prop} {ds : List Nat} {oi : Oper} {fuel : Nat} {l : Array Bool} {a a' : Act} {w : World} {v : Value} (i : Nat) (N : Option Tmp) (l' : Array Bool) (hi : ops[i]? = some oi) (hN : oi.dst = N) (hS : S w) (h : QaO P md ops Q S ds fuel l' a' w) (hc : takeB md ops ds l l' i = true := by first | exact take_ofW HT_.out HW_.out (by kernel_rfl) | kernel_rfl) (hy : YieldsIf P ops S oi v a := by exact Or.inl ⟨by rfl, by (intro w' hS_; (repeat (obtain ⟨h1_, hS_⟩ : _ ∧ _ := hS_)); go_simp; with_reducible rfl)⟩) (ha : a.put N v = a' := by (simp only [Act.put, List.setIfInBounds_toArray, List.set_cons_zero, List.set_cons_succ, Qbb, Qbd]; rfl)) (hQ : ∀ c a w, Q (.panic c) (a.put oi.dst v) w → Q (.panic c) a w := by exact fun _ _ _ h => h) : QaO P md ops Q S ds (fuel + 1) l a w := take_ l' hi hN hc hQ hy hS ha h
theorem bb_ {g : Nat} {o : Obj} {w W w1 : World} (B : Aside0 (w.heap[g]? = some o)) (hb : Below W.heap.size W w1) (k : w.heap[g]? = some o → W.heap[g]? = some o := by (intro h_; (with_reducible repeat (first | refine blk_drewN ?_ _ | refine Qbf ?_ | refine Qb7 ?_ _)); exact h_)) : w1.heap[g]? = some o := QbW (k B.out) hb
theorem nl_ {g n : Nat} {o : Obj} {w W : World} (hg : n = W.heap.size) (B : Aside0 (w.heap[g]? = some o)) (k : w.heap[g]? = some o → W.heap[g]? = some o := by (intro h_; (with_reducible repeat (first | refine blk_drewN ?_ _ | refine Qbf ?_ | refine Qb7 ?_ _)); exact h_)) : g ≠ n := by rw [hg]; exact Nat.ne_of_lt (Qbr (k B.out))
theorem ng_ {g n : Nat} {o : Obj} {w W : World} (hg : n = W.heap.size) (B : Aside0 (w.heap[g]? = some o)) (k : w.heap[g]? = some o → W.heap[g]? = some o := by (intro h_; (with_reducible repeat (first | refine blk_drewN ?_ _ | refine Qbf ?_ | refine Qb7 ?_ _)); exact h_)) : n ≠ g := by rw [hg]; exact Nat.ne_of_gt (Qbr (k B.out))
theorem gs_ {w W : World} {n : Nat} (hg : n = W.heap.size) (h : Below w.heap.size w W) : w.heap.size ≤ n := by rw [hg]; exact h.size
theorem pc_ {w w1 : World} (HB : Aside0 (Below w.heap.size w w1)) {a : Addr} {v : Value} (h : w.cell? a = some v) : w1.cell? a = some v := QaI HB.out h
theorem kb_ {p q : Prop} (h : q) (k : q → p := by (intro h_; (with_reducible repeat (first | refine blk_drewN ?_ _ | refine Qbf ?_ | refine Qb7 ?_ _)); exact h_)) : p := k h
theorem QaP {p q : Prop} (h : q) (k : q → p := by (intro h_; (with_reducible repeat (first | apply Kd.R_alloc | apply Kd.R_drewN | apply Kd.R_drew)); exact h_)) : p := k h
theorem kdS_ {p q : Prop} (h : q) (k : q → p := by (intro h_; (with_reducible repeat (first | apply Kd.S_alloc | apply Kd.S_drewN | apply Kd.S_drew)); exact h_)) : p := k h
theorem kdQ_ {p q : Prop} (h : q) (k : q → p := by (intro h_; (with_reducible repeat (first | apply Kd.Q_alloc | apply Kd.Q_drewN | apply Kd.Q_drew)); exact h_)) : p := k h
theorem kk_ {p : Prop} (h : p := by repeat (first | (with_reducible first | exact HK.out | apply Qai.set_ | apply keep_drewN | apply Qcp | apply keep_alloc | refine keep_far ?_ (Aside0.out (by assumption)) _) | exact HK.out)) : p := h
theorem ki_ {p : Prop} (h : p := by repeat (first | (with_reducible first | exact HI0.out | apply Qad.alloc | apply Qad.drewN | apply Qad.drew | apply Qad.set_1 | refine Qad.far ?_ (Aside0.out (by assumption)) _) | exact HI0.out)) : p := h
theorem bx_ {p : Prop} (h : p := by repeat (first | (with_reducible first | exact HB.out | apply Qal | apply Qar | apply Qav | refine Qaw ?_ (Aside0.out (by assumption)) | refine Qaw ?_ (Qad.ge (Aside0.out (by assumption))) | refine Qaw ?_ (Nat.le_trans (Aside0.out (by assumption)) (Aside0.out (by assumption)))) | exact HB.out)) : p := h
theorem bw_ {p : Prop} (h : p := by repeat (first | (with_reducible first | exact HB.out | apply Qal | apply Qar | apply Qav | refine Qaw ?_ (Aside0.out (by assumption))) | exact HB.out)) : p := h
theorem cb_ {p : Prop} (h : p := by repeat (first | exact Kd.C_below (Aside0.out (by assumption)) HB.out | exact Kd.C_below (Aside0.out (by assumption)) bw_ | (with_reducible refine Kd.C_alloc ?_ _) | (with_reducible refine Kd.C_drewN ?_ _) | (with_reducible refine Kd.C_drew ?_))) : p := h
theorem blkF1_ {w : World} {g t : Nat} {a0 : Value} (h : w.heap[g]? = some (.cells #[a0] t (0, 0))) : w.cell? ⟨g, 0, none⟩ = some a0 ∧ w.frozen? ⟨g, 0, none⟩ = false := ⟨(Qaf h 0).trans rfl, Qaj h 0⟩
theorem Qb2 {w : World} {g t : Nat} {a0 a1 : Value} (h : w.heap[g]? = some (.cells #[a0, a1] t (0, 0))) : w.cell? ⟨g, 0, none⟩ = some a0 ∧ w.cell? ⟨g, 1, none⟩ = some a1 ∧ w.frozen? ⟨g, 0, none⟩ = false ∧ w.frozen? ⟨g, 1, none⟩ = false := ⟨(Qaf h 0).trans rfl, (Qaf h 1).trans rfl, Qaj h 0, Qaj h 1⟩
theorem Qb_ {w : World} {g t : Nat} {a0 a1 a2 : Value} (h : w.heap[g]? = some (.cells #[a0, a1, a2] t (0, 0))) : w.cell? ⟨g, 0, none⟩ = some a0 ∧ w.cell? ⟨g, 1, none⟩ = some a1 ∧ w.cell? ⟨g, 2, none⟩ = some a2 ∧ w.frozen? ⟨g, 0, none⟩ = false ∧ w.frozen? ⟨g, 1, none⟩ = false ∧ w.frozen? ⟨g, 2, none⟩ = false := ⟨(Qaf h 0).trans rfl, (Qaf h 1).trans rfl, (Qaf h 2).trans rfl, Qaj h 0, Qaj h 1, Qaj h 2⟩
end Go.Proofs.Ytabcijheemjplaa.G
namespace Go.Proofs.Ytabcijheemjplaa.G
open Go.RowKit Go.Proofs.YtabcijheemjplaaW.PrintWords Go.Proofs.YtabcijheemjplaaW.PrintLast Go.Proofs.YtabcijheemjplaaW.PrintMore
attribute [local go_sem] QaQ QaR Qa3 Qa4 QaJ QaK QaS QaT
set_option linter.unusedVariables false
set_option linter.unusedSimpArgs false
def Qad (w0 W : World) (g : Nat) (f0 : List Int) (f1 : Int) : Prop := ∃ A0 c0, W.heap[g]? = some (.cells #[.slice A0 f0.length c0, .int .i64 f1] 120 (0, 0)) ∧ w0.heap.size ≤ g ∧ Kd.C (Kd.int .u8) w0 A0 f0.length f0
theorem Qad.grown {w0 W : World} {g : Nat} {f0 : List Int} {f1 : Int} {W1 : World} {row : Option Nat} (h : Qad w0 W g f0 f1) (hw : W.grownBy W1 row) (hne : some g ≠ row) : Qad w0 W1 g f0 f1 := by
 obtain ⟨A0, c0, hb, hg, hr0⟩ := h
 exact ⟨A0, c0, QaU hb hw hne, hg, hr0⟩
theorem Qad.kept {w0 W : World} {g : Nat} {f0 : List Int} {f1 : Int} {W1 : World} {S : Nat → Prop} (h : Qad w0 W g f0 f1) (hk : Kept W W1 S) (hne : ¬ S g) : Qad w0 W1 g f0 f1 := by
 obtain ⟨A0, c0, hb, hg, hr0⟩ := h
 exact ⟨A0, c0, blk_kept hb hk hne, hg, hr0⟩
theorem Qad.below {w0 W : World} {g : Nat} {f0 : List Int} {f1 : Int} {W1 : World} (h : Qad w0 W g f0 f1) (hw : Below W.heap.size W W1) : Qad w0 W1 g f0 f1 := h.grown (grown_of_below hw none) (by simp)
theorem Qad.alloc {w0 W : World} {g : Nat} {f0 : List Int} {f1 : Int} (h : Qad w0 W g f0 f1) (o : Obj) : Qad w0 (W.alloc o) g f0 f1 := h.below (Qal (Below.refl _ _) o)
theorem Qad.drewN {w0 W : World} {g : Nat} {f0 : List Int} {f1 : Int} (h : Qad w0 W g f0 f1) (m : Nat) : Qad w0 (W.drewN m) g f0 f1 := h
theorem Qad.drew {w0 W : World} {g : Nat} {f0 : List Int} {f1 : Int} (h : Qad w0 W g f0 f1) : Qad w0 W.drew g f0 f1 := h
theorem Qad.at_ {w0 W : World} {g : Nat} {f0 : List Int} {f1 : Int} {w' : World} {m : Nat} (hq : W.drewN m = w') (h : Qad w0 W g f0 f1) : Qad w0 w' g f0 f1 := by subst hq; exact Qad.drewN h m
theorem Qad.apart {w0 W : World} {g : Nat} {f0 : List Int} {f1 : Int} {α : Type} {d : Kd α} {e : Nat} {base : Nat} {ok : Nat → Prop} {v : Value} {xs : List α} (h : Qad w0 W g f0 f1) (ho : d.R e W base ok v xs) (ht : ∀ q, q ∈ e :: d.E → q ≠ 120) : d.R e W base (fun k => ok k ∧ k ≠ g) v xs := by
 obtain ⟨A0, c0, hb, hg, hr0⟩ := h
 exact Kd.R_types ho hb ht
theorem Qad.own_ne {w0 W : World} {g : Nat} {f0 : List Int} {f1 : Int} {α : Type} {d : Kd α} {e : Nat} {base : Nat} {ok : Nat → Prop} {v : Value} {xs : List α} (h : Qad w0 W g f0 f1) (ho : d.R e W base ok v xs) (ht : e ≠ 120) : some g ≠ v.ownBlock := by
 obtain ⟨A0, c0, hb, hg, hr0⟩ := h
 exact Kd.R_ne ho hb ht
theorem Qad.apartS {w0 W : World} {g : Nat} {f0 : List Int} {f1 : Int} {α : Type} {d : Kd α} {e : Nat} {base : Nat} {ok : Nat → Prop} {v : Value} {xs : List α} (h : Qad w0 W g f0 f1) (ho : d.S e W base ok v xs) (ht : ∀ q, q ∈ e :: d.E → q ≠ 120) : d.S e W base (fun k => ok k ∧ k ≠ g) v xs := by
 obtain ⟨A0, c0, hb, hg, hr0⟩ := h
 exact Kd.S_types ho hb ht
theorem Qad.own_neS {w0 W : World} {g : Nat} {f0 : List Int} {f1 : Int} {α : Type} {d : Kd α} {e : Nat} {base : Nat} {ok : Nat → Prop} {v : Value} {xs : List α} (h : Qad w0 W g f0 f1) (ho : d.S e W base ok v xs) (ht : e ≠ 120) : some g ≠ v.ownBlock := by
 obtain ⟨A0, c0, hb, hg, hr0⟩ := h
 exact Kd.S_ne ho hb ht
theorem Qad.lt {w0 W : World} {g : Nat} {f0 : List Int} {f1 : Int} (h : Qad w0 W g f0 f1) : g < W.heap.size := by
 obtain ⟨A0, c0, hb, hg, hr0⟩ := h
 exact Qbr hb
theorem Qad.ge {w0 W : World} {g : Nat} {f0 : List Int} {f1 : Int} (h : Qad w0 W g f0 f1) : w0.heap.size ≤ g := by
 obtain ⟨A0, c0, hb, hg, hr0⟩ := h
 exact hg
theorem Qad.ne_blk {w0 W : World} {g : Nat} {f0 : List Int} {f1 : Int} {a : Nat} {cs : Array Value} {t : TypeId} {fr : Nat × Nat} (h : Qad w0 W g f0 f1) (hb2 : W.heap[a]? = some (.cells cs t fr)) (ht : t ≠ 120) : g ≠ a := by
 obtain ⟨A0, c0, hb, hg, hr0⟩ := h
 rintro rfl
 rw [hb] at hb2
 injection hb2 with hb2
 injection hb2 with _ ht2
 exact ht ht2.symm
theorem Qad.far {w0 W : World} {g : Nat} {f0 : List Int} {f1 : Int} {p : Addr} (h : Qad w0 W g f0 f1) (hne : g ≠ p.block) (u : Value) : Qad w0 (W.setCell p u) g f0 f1 := by
 obtain ⟨A0, c0, hb, hg, hr0⟩ := h
 exact ⟨A0, c0, Qbe hb hne u, hg, hr0⟩
theorem cellS120_0 {W : World} {g : Nat} {A0 : Option Addr} {c0 : Nat} {f0 : List Int} {f1 : Int} (h : W.heap[g]? = some (.cells #[.slice A0 f0.length c0, .int .i64 f1] 120 (0, 0))) : W.cell? ⟨g, 0, none⟩ = some (.slice A0 f0.length c0) := (Qaf h 0).trans rfl
theorem cellS120_1 {W : World} {g : Nat} {A0 : Option Addr} {c0 : Nat} {f0 : List Int} {f1 : Int} (h : W.heap[g]? = some (.cells #[.slice A0 f0.length c0, .int .i64 f1] 120 (0, 0))) : W.cell? ⟨g, 1, none⟩ = some (.int .i64 f1) := (Qaf h 1).trans rfl
theorem Qad.set_1 {w0 W : World} {g : Nat} {f0 : List Int} {f1 : Int} (h : Qad w0 W g f0 f1) (x : Int) : Qad w0 (W.setCell ⟨g, 1, none⟩ (.int .i64 x)) g f0 x := by
 obtain ⟨A0, c0, hb, hg, hr0⟩ := h
 exact ⟨A0, c0, by simpa using QbV hb 1 (.int .i64 x), hg, hr0⟩
theorem Qad.new (w0 W : World) (A0 : Option Addr) (c0 : Nat) (f0 : List Int) (f1 : Int) (hB : Below w0.heap.size w0 W) (hr0 : Kd.C (Kd.int .u8) w0 A0 f0.length f0) : Qad w0 (W.alloc (.cells #[.slice A0 f0.length c0, .int .i64 f1] 120)) W.heap.size f0 f1 := ⟨A0, c0, by simpa using heap_alloc_new W _, hB.size, hr0⟩
def Qcd.f (l0 : List Int) : Option (List Int × Int) := if (l0.length : Int) > 2000 then (if 2000 ≤ (l0.length : Int) then (some (l0.take 2000, 0)) else (none)) else (some (l0, 0))
set_option maxHeartbeats 8000000 in
set_option maxRecDepth 100000 in
theorem Qcd.calls (A0 : Option Addr) (c0 : Nat) (l0 : List Int) (r1 : List Int) (r2 : Int) (w0 w : World) (hB : Below w0.heap.size w0 w) (hr0 : Kd.C (Kd.int .u8) w0 A0 l0.length l0) (hc0 : l0.length ≤ c0) (h : Qcd.f l0 = some (r1, r2)) :
 Calls Try.prog 53 #[.slice A0 l0.length c0] w fun e w' => ∃ g_ : Nat, e = .returned (.pointer (some ⟨g_, 0, none⟩)) ∧ Qad w0 w' g_ r1 r2 ∧ Below w0.heap.size w0 w' ∧ Below w.heap.size w w' := by
 have hu120 := Try.underlying120
 have HR0 := Aside0.mk hr0
 have HC0 := Aside0.mk hc0
 clear hr0 hc0
 have HBW := Aside0.mk (Below.refl w.heap.size w)
 have HW0 := Aside0.mk hB.size
 have HB := Aside0.mk hB
 clear hB
 have H : (if (l0.length : Int) > 2000 then (if 2000 ≤ (l0.length : Int) then (some (l0.take 2000, 0)) else (none)) else (some (l0, 0))) = some (r1, r2) := h
 clear h
 by_cases c2 : (l0.length : Int) > 2000
 · rw [if_pos c2] at H
   have c2b0 : decide (2000 < (l0.length : Int)) = true := decide_eq_true c2
   have c2b1 : decide (2000 < l0.length) = true := decide_eq_true (by omega)
   clear c2
   by_cases c3 : 2000 ≤ (l0.length : Int)
   · rw [if_pos c3] at H
     have c3b0 := eq_true c3
     have c3b1 : decide (2000 ≤ (l0.length : Int)) = true := decide_eq_true c3
     clear c3
     simp only [Option.some.injEq, Prod.mk.injEq] at H
     obtain ⟨rfl, rfl⟩ := H
     obtain ⟨i04, hi04, _, hsz4, _⟩ := info_parts info5
     obtain ⟨hcut4, hA4, hC4⟩ := print_take_of (P := Try.prog) (Value.int .u8) 0 22 5 .i64 Try.underlying22 hi04 hsz4 A0 c0 l0 2000 (by omega) (of_decide_eq_true (by first | (with_reducible assumption) | assumption)) HC0.out
     have HR101 := Aside0.mk (Kd.C_of_reads (h1 := fun _ => rfl) (hA4 _ (Kd.reads_of_C HR0.out)))
     have HC101 := Aside0.mk hC4
     clear hA4 hC4 hi04 hsz4
     go_enter Try.func53, Try.ntmps53
     go_wp2_with (first | ((with_reducible refine QaH (N := 10) rfl ?_); refine QaN ?hg (N := 10) ?hd (cs := #[.slice A0 (l0.take 2000).length c0, .int .i64 0]) (t := 120) ?hr ?_; (case hd => rfl); (case hg => rfl); (case hr => first | (go_simp; done) | (go_simp; rfl)); intro gb102 hg w5 hbox hb; have n0_ := Aside0.mk (Qap HBW.out hb); have n1_ := Aside0.mk (Qap (bw_) hb); have n2_ := Aside0.mk (hbox); have n3_ := Aside0.mk ((by rw [hg]; exact (QaY (by repeat (first | (with_reducible first | exact HBW.out | apply Qal | apply Qar | apply Qav) | exact HBW.out))) : w.heap.size ≤ gb102)); have n4_ := Aside0.mk ((Nat.le_trans HW0.out (by rw [hg]; exact (QaY (by repeat (first | (with_reducible first | exact HBW.out | apply Qal | apply Qar | apply Qav) | exact HBW.out))) : w.heap.size ≤ gb102) : w0.heap.size ≤ gb102)); clear HBW; clear HB; have HBW := n0_; have HB := n1_; have BK102 := n2_; have GW102 := n3_; have GE102 := n4_; clear n0_ n1_ n2_ n3_ n4_; clear hb hbox hg))
     go_ret
     exact ⟨_, rfl, (show Qad w0 _ gb102 (l0.take 2000) 0 from ⟨_, _, by (refine kb_ ?_); exact BK102.out, GE102.out, HR101.out⟩), bw_, by repeat (first | (with_reducible first | exact HBW.out | apply Qal | apply Qar | apply Qav | refine Qaw ?_ GW102.out) | exact HBW.out)⟩
   · rw [if_neg c3] at H
     exact absurd H (by simp)
 · rw [if_neg c2] at H
   have c2b0 : decide (2000 < (l0.length : Int)) = false := decide_eq_false c2
   have c2b1 : decide (2000 < l0.length) = false := decide_eq_false (by omega)
   clear c2
   simp only [Option.some.injEq, Prod.mk.injEq] at H
   obtain ⟨rfl, rfl⟩ := H
   go_enter Try.func53, Try.ntmps53
   go_wp2_with (first | ((with_reducible refine QaH (N := 10) rfl ?_); refine QaN ?hg (N := 10) ?hd (cs := #[.slice A0 l0.length c0, .int .i64 0]) (t := 120) ?hr ?_; (case hd => rfl); (case hg => rfl); (case hr => first | (go_simp; done) | (go_simp; rfl)); intro gb103 hg w6 hbox hb; have n0_ := Aside0.mk (Qap HBW.out hb); have n1_ := Aside0.mk (Qap (bw_) hb); have n2_ := Aside0.mk (hbox); have n3_ := Aside0.mk ((by rw [hg]; exact (QaY (by repeat (first | (with_reducible first | exact HBW.out | apply Qal | apply Qar | apply Qav) | exact HBW.out))) : w.heap.size ≤ gb103)); have n4_ := Aside0.mk ((Nat.le_trans HW0.out (by rw [hg]; exact (QaY (by repeat (first | (with_reducible first | exact HBW.out | apply Qal | apply Qar | apply Qav) | exact HBW.out))) : w.heap.size ≤ gb103) : w0.heap.size ≤ gb103)); clear HBW; clear HB; have HBW := n0_; have HB := n1_; have BK103 := n2_; have GW103 := n3_; have GE103 := n4_; clear n0_ n1_ n2_ n3_ n4_; clear hb hbox hg))
   go_ret
   exact ⟨_, rfl, (show Qad w0 _ gb103 l0 0 from ⟨_, _, by (refine kb_ ?_); exact BK103.out, GE103.out, HR0.out⟩), bw_, by repeat (first | (with_reducible first | exact HBW.out | apply Qal | apply Qar | apply Qav | refine Qaw ?_ GW103.out) | exact HBW.out)⟩
end Go.Proofs.Ytabcijheemjplaa.G
namespace Go.Proofs.Ytabcijheemjplaa.G
open Go.RowKit Go.Proofs.YtabcijheemjplaaW.PrintWords Go.Proofs.YtabcijheemjplaaW.PrintLast Go.Proofs.YtabcijheemjplaaW.PrintMore
attribute [local go_sem] QaQ QaR Qa3 Qa4 QaJ QaK QaS QaT
set_option linter.unusedVariables false
set_option linter.unusedSimpArgs false
def Qab.j0 : Nat → Int → Bool → List Int → Int → Option (Int × Int)
 | 0, _, _, _, _ => none
 | k + 1, x1, x24, x1000, x1001 => if x24 = true then (some (0, x1001)) else (if (wrap64 (x1001 - 1)) < (x1000.length : Int) then (if 0 ≤ (wrap64 (x1001 - 1)) then (if x1 = 0 then (none) else (some (Int.tmod (wrap64 (rd x1000 (wrap64 (x1001 - 1)))) x1, x1001))) else (none)) else (if (x1000.length : Int) = 0 then (none) else (if 0 ≤ (Int.tmod (wrap64 (x1001 - 1)) (x1000.length : Int)) then (if (Int.tmod (wrap64 (x1001 - 1)) (x1000.length : Int)) < (x1000.length : Int) then (if 0 ≤ (Int.tmod (wrap64 ((wrap64 ((wrap64 (x1001 - 1)) * 7)) + 3)) (x1000.length : Int)) then (if (Int.tmod (wrap64 ((wrap64 ((wrap64 (x1001 - 1)) * 7)) + 3)) (x1000.length : Int)) < (x1000.length : Int) then (if x1 = 0 then (none) else (some (Int.tmod (Go.bits .xor .i64 (wrap64 ((wrap64 ((wrap64 ((wrap64 ((wrap64 (rd x1000 (Int.tmod (wrap64 (x1001 - 1)) (x1000.length : Int)))) * 131)) + (wrap64 ((wrap64 (rd x1000 (Int.tmod (wrap64 ((wrap64 ((wrap64 (x1001 - 1)) * 7)) + 3)) (x1000.length : Int)))) * 1117)))) + (wrap64 ((wrap64 (x1001 - 1)) * 29)))) + (wrap64 ((wrap64 (Int.tdiv (wrap64 (x1001 - 1)) (x1000.length : Int))) * 53)))) (wrap64 (Int.tdiv (wrap64 ((wrap64 ((wrap64 ((wrap64 ((wrap64 (rd x1000 (Int.tmod (wrap64 (x1001 - 1)) (x1000.length : Int)))) * 131)) + (wrap64 ((wrap64 (rd x1000 (Int.tmod (wrap64 ((wrap64 ((wrap64 (x1001 - 1)) * 7)) + 3)) (x1000.length : Int)))) * 1117)))) + (wrap64 ((wrap64 (x1001 - 1)) * 29)))) + (wrap64 ((wrap64 (Int.tdiv (wrap64 (x1001 - 1)) (x1000.length : Int))) * 53)))) 64))) x1, x1001))) else (none)) else (none)) else (none)) else (none))))
def Qab.f (k : Nat) (s0_0 : List Int) (s0_1 : Int) (a1 : Int) : Option (Int × Int) := if a1 < 1 then (Qab.j0 k a1 true s0_0 (wrap64 (s0_1 + 1))) else (Qab.j0 k a1 ((s0_0.length : Int) == 0) s0_0 (wrap64 (s0_1 + 1)))
theorem Qab.mono_l : ∀ k, (∀ y0 y1 y2 y3, LeO (Qab.j0 k y0 y1 y2 y3) (Qab.j0 (k + 1) y0 y1 y2 y3))
 | 0 => fun _ _ _ _ r h => by simp [Qab.j0] at h
 | k + 1 => by
   have ih0 := Qab.mono_l k
   · intro y0 y1 y2 y3
     unfold Qab.j0
     repeat' first
     | (with_reducible exact ih0 _ _ _ _)
     | (with_reducible exact LeO.refl _)
     | (with_reducible exact LeO.none _)
     | (with_reducible refine LeO.ite ?_ ?_)
     | (with_reducible refine LeO.bind ?_ (fun _ => ?_))
     | exact ih0 _ _ _ _
     | exact LeO.none _
     | refine LeO.ite ?_ ?_
     | refine LeO.bind ?_ (fun _ => ?_)
theorem Qab.mono : ∀ a0 a1 a2 k, LeO (Qab.f k a0 a1 a2) (Qab.f (k + 1) a0 a1 a2) := by
 intro a0 a1 a2 k
 have ih0 := Qab.mono_l k
 unfold Qab.f
 repeat' first
  | (with_reducible exact ih0 _ _ _ _)
  | (with_reducible exact LeO.refl _)
  | (with_reducible exact LeO.none _)
  | (with_reducible refine LeO.ite ?_ ?_)
  | (with_reducible refine LeO.bind ?_ (fun _ => ?_))
  | exact ih0 _ _ _ _
  | exact LeO.none _
  | refine LeO.ite ?_ ?_
  | refine LeO.bind ?_ (fun _ => ?_)
set_option maxHeartbeats 8000000 in
set_option maxRecDepth 100000 in
theorem Qab.calls (k : Nat) (g : Nat) (s0_0 : List Int) (s0_1 : Int) (a1 : Int) (r1 : Int) (r2 : Int) (w0 w : World) (hI : Qad w0 w g s0_0 s0_1) (hB : Below w0.heap.size w0 w) (h : Qab.f k s0_0 s0_1 a1 = some (r1, r2)) :
 Calls Try.prog 55 #[.pointer (some ⟨g, 0, none⟩), .int .i64 a1] w fun e w' => e = .returned (.int .i64 r1) ∧ Qad w0 w' g s0_0 r2 ∧ Below w0.heap.size w0 w' ∧ Qai w w' g none := by
 have HI0 := Aside0.mk hI
 have HK := Aside0.mk (Qai.refl w g none)
 have HL := Aside0.mk hB.size
 clear hI
 have HW0 := Aside0.mk hB.size
 have HB := Aside0.mk hB
 clear hB
 have H : (if a1 < 1 then (Qab.j0 k a1 true s0_0 (wrap64 (s0_1 + 1))) else (Qab.j0 k a1 ((s0_0.length : Int) == 0) s0_0 (wrap64 (s0_1 + 1)))) = some (r1, r2) := h
 clear h
 have HC3 := Aside0.mk H
 clear H
 obtain ⟨ASz4_0, cSz4_0, HGz4, hgz4, HSz4_0⟩ := HI0.out
 have hcz4_0 := cellS120_0 HGz4
 have hcz4_1 := cellS120_1 HGz4
 have hfz4_1 := Qaj HGz4 1
 clear HGz4 hgz4
 go_enter Try.func55, Try.ntmps55
 go_upto_region 2 with (fail)
 repeat (go_quiet (fail); go_upto_region 2 with (fail))
 go_cut [24] (fun v24 wc => ∃ (kq : Nat) (x24_2 : Bool), v24 = .bool x24_2 ∧ Aside0 (Qab.j0 kq a1 x24_2 s0_0 (wrap64 (s0_1 + 1)) = some (r1, r2)) ∧ Aside0 (kq ≤ k) ∧ Aside0 (Qad w0 wc g s0_0 (wrap64 (s0_1 + 1))) ∧ Aside0 (Qai w wc g none) ∧ Aside0 (Below w0.heap.size w0 wc))
 case first =>
  have H := HC3.out
  clear HC3
  by_cases c5 : a1 < 1
  · rw [if_pos c5] at H
    have c5b0 : decide (a1 < 1) = true := decide_eq_true c5
    clear c5
    (first | rw [c5b0] | (simp only [Qbb, Qbd]; rw [c5b0]) | skip)
    have H' := Aside0.mk H
    clear H
    go_wp2
    repeat (go_quiet (fail); try go_wp2)
    go_meet
    case rel => exact ⟨_, (true), (by first | rfl | (simp; done) | (simp [*]; done)), H', ⟨by first | omega | exact Nat.le_refl _⟩, ⟨ki_⟩, ⟨kk_⟩, ⟨bx_⟩⟩
  · rw [if_neg c5] at H
    have c5b0 : decide (a1 < 1) = false := decide_eq_false c5
    clear c5
    (first | rw [c5b0] | (simp only [Qbb, Qbd]; rw [c5b0]) | skip)
    have H' := Aside0.mk H
    clear H
    obtain ⟨ASz6_0, cSz6_0, HGz6, hgz6, HSz6_0⟩ := HI0.out
    have hcz6_0 := cellS120_0 HGz6
    have hcz6_1 := cellS120_1 HGz6
    have hfz6_1 := Qaj HGz6 1
    clear HGz6 hgz6
    go_wp2
    repeat (go_quiet (fail); try go_wp2)
    go_meet
    case rel => exact ⟨_, (((s0_0.length : Int) == 0)), (by first | rfl | (simp; done) | (simp [*]; done)), H', ⟨by first | omega | exact Nat.le_refl _⟩, ⟨ki_⟩, ⟨kk_⟩, ⟨bx_⟩⟩
 case rest =>
  clear HC3
  try clear p2
  try clear c5
  try clear c5b0
  try clear p6
  try clear hcz4_0
  try clear hcz4_1
  try clear hcz6_0
  try clear hcz6_1
  try clear hfz4_1
  try clear hfz6_1
  obtain ⟨kq, x24_2, rfl, HA, HJ2, HI0, HK, HB⟩ := hcut
  cases kq with
  | zero => exact absurd HA.out (by simp [Qab.j0])
  | succ kj2 =>
    have H := HA.out
    clear HA
    simp only [Qab.j0] at H
    by_cases c7 : x24_2 = true
    · subst c7
      have H1 : (some (0, (wrap64 (s0_1 + 1)))) = some (r1, r2) := by rw [if_pos rfl] at H; exact H
      clear H
      have H := H1
      clear H1
      simp only [Option.some.injEq, Prod.mk.injEq] at H
      obtain ⟨rfl, rfl⟩ := H
      go_wp2
      repeat (go_quiet (fail); try go_wp2)
      go_ret
      exact ⟨by first | rfl | (simp [Qan, Qao] <;> rfl) | (simp [*, Qan, Qao] <;> rfl), ki_, bx_, kk_⟩
    · replace c7 := Bool.eq_false_iff.mpr c7
      subst c7
      have H1 : (if (wrap64 ((wrap64 (s0_1 + 1)) - 1)) < (s0_0.length : Int) then (if 0 ≤ (wrap64 ((wrap64 (s0_1 + 1)) - 1)) then (if a1 = 0 then (none) else (some (Int.tmod (wrap64 (rd s0_0 (wrap64 ((wrap64 (s0_1 + 1)) - 1)))) a1, (wrap64 (s0_1 + 1))))) else (none)) else (if (s0_0.length : Int) = 0 then (none) else (if 0 ≤ (Int.tmod (wrap64 ((wrap64 (s0_1 + 1)) - 1)) (s0_0.length : Int)) then (if (Int.tmod (wrap64 ((wrap64 (s0_1 + 1)) - 1)) (s0_0.length : Int)) < (s0_0.length : Int) then (if 0 ≤ (Int.tmod (wrap64 ((wrap64 ((wrap64 ((wrap64 (s0_1 + 1)) - 1)) * 7)) + 3)) (s0_0.length : Int)) then (if (Int.tmod (wrap64 ((wrap64 ((wrap64 ((wrap64 (s0_1 + 1)) - 1)) * 7)) + 3)) (s0_0.length : Int)) < (s0_0.length : Int) then (if a1 = 0 then (none) else (some (Int.tmod (Go.bits .xor .i64 (wrap64 ((wrap64 ((wrap64 ((wrap64 ((wrap64 (rd s0_0 (Int.tmod (wrap64 ((wrap64 (s0_1 + 1)) - 1)) (s0_0.length : Int)))) * 131)) + (wrap64 ((wrap64 (rd s0_0 (Int.tmod (wrap64 ((wrap64 ((wrap64 ((wrap64 (s0_1 + 1)) - 1)) * 7)) + 3)) (s0_0.length : Int)))) * 1117)))) + (wrap64 ((wrap64 ((wrap64 (s0_1 + 1)) - 1)) * 29)))) + (wrap64 ((wrap64 (Int.tdiv (wrap64 ((wrap64 (s0_1 + 1)) - 1)) (s0_0.length : Int))) * 53)))) (wrap64 (Int.tdiv (wrap64 ((wrap64 ((wrap64 ((wrap64 ((wrap64 (rd s0_0 (Int.tmod (wrap64 ((wrap64 (s0_1 + 1)) - 1)) (s0_0.length : Int)))) * 131)) + (wrap64 ((wrap64 (rd s0_0 (Int.tmod (wrap64 ((wrap64 ((wrap64 ((wrap64 (s0_1 + 1)) - 1)) * 7)) + 3)) (s0_0.length : Int)))) * 1117)))) + (wrap64 ((wrap64 ((wrap64 (s0_1 + 1)) - 1)) * 29)))) + (wrap64 ((wrap64 (Int.tdiv (wrap64 ((wrap64 (s0_1 + 1)) - 1)) (s0_0.length : Int))) * 53)))) 64))) a1, (wrap64 (s0_1 + 1))))) else (none)) else (none)) else (none)) else (none)))) = some (r1, r2) := by rw [if_neg (show ¬ (false = true) by decide)] at H; exact H
      clear H
      have H := H1
      clear H1
      by_cases c8 : (wrap64 ((wrap64 (s0_1 + 1)) - 1)) < (s0_0.length : Int)
      · rw [if_pos c8] at H
        have c8b0 : decide ((wrap64 ((wrap64 (s0_1 + 1)) - 1)) < (s0_0.length : Int)) = true := decide_eq_true c8
        clear c8
        obtain ⟨ji9, hji9⟩ : ∃ j_ : Int, (wrap64 ((wrap64 (s0_1 + 1)) - 1)) = j_ := ⟨_, rfl⟩
        replace H : (if 0 ≤ (ji9) then (if a1 = 0 then (none) else (some (Int.tmod (wrap64 (rd s0_0 (ji9))) a1, (wrap64 (s0_1 + 1))))) else (none)) = some (r1, r2) := by first | (rw [hji9] at H; exact H) | (simp only [hji9] at H ⊢; exact H)
        (try rw [hji9] at c8b0)
        have hji9w : (IntKind.i64.wrap ((wrap64 (s0_1 + 1)) - 1)) = ji9 := (Qbb _).trans hji9
        by_cases c10 : 0 ≤ (ji9)
        · rw [if_pos c10] at H
          have c10b0 : decide (0 ≤ (ji9)) = true := decide_eq_true c10
          clear c10
          by_cases c11 : a1 = 0
          · rw [if_pos c11] at H
            exact absurd H (by simp)
          · rw [if_neg c11] at H
            have c11b0 : (a1 == 0) = false := beq_eq_false_iff_ne.mpr c11
            have c11b1 : (a1 != 0) = true := bne_iff_ne.mpr c11
            simp only [Option.some.injEq, Prod.mk.injEq] at H
            obtain ⟨rfl, rfl⟩ := H
            obtain ⟨ASz12_0, cSz12_0, HGz12, hgz12, HSz12_0⟩ := HI0.out
            have hcz12_0 := cellS120_0 HGz12
            have hcz12_1 := cellS120_1 HGz12
            have hfz12_1 := Qaj HGz12 1
            clear HGz12 hgz12
            have p101 : 0 ≤ ((ji9) : Int) := of_decide_eq_true (by first | (with_reducible assumption) | assumption)
            have q101 : (ji9) < (s0_0.length : Int) := of_decide_eq_true (by first | (with_reducible assumption) | assumption)
            obtain ⟨ad101, e101, hx101_0⟩ := Kd.at_int HSz12_0 (ji9) p101 q101
            cases e101
            replace hx101_0 := QaI HB.out hx101_0
            replace p101 := eq_true p101
            replace q101 := eq_true q101
            go_wp2
            repeat (go_quiet (fail); try go_wp2)
            go_ret
            exact ⟨by first | rfl | (simp [Qan, Qao] <;> rfl) | (simp only [← hji9]; first | rfl | (simp [Qan, Qao] <;> rfl)) | (simp [*, Qan, Qao] <;> rfl), ki_, bx_, kk_⟩
        · rw [if_neg c10] at H
          exact absurd H (by simp)
      · rw [if_neg c8] at H
        have c8b0 : decide ((wrap64 ((wrap64 (s0_1 + 1)) - 1)) < (s0_0.length : Int)) = false := decide_eq_false c8
        clear c8
        by_cases c13 : (s0_0.length : Int) = 0
        · rw [if_pos c13] at H
          exact absurd H (by simp)
        · rw [if_neg c13] at H
          have c13b0 : ((s0_0.length : Int) == 0) = false := beq_eq_false_iff_ne.mpr c13
          have c13b1 : ((s0_0.length : Int) != 0) = true := bne_iff_ne.mpr c13
          have c13b2 : ¬ (s0_0 = []) := fun h_ => c13 (by rw [h_]; rfl)
          obtain ⟨ji14, hji14⟩ : ∃ j_ : Int, (Int.tmod (wrap64 ((wrap64 (s0_1 + 1)) - 1)) (s0_0.length : Int)) = j_ := ⟨_, rfl⟩
          replace H : (if 0 ≤ (ji14) then (if (ji14) < (s0_0.length : Int) then (if 0 ≤ (Int.tmod (wrap64 ((wrap64 ((wrap64 ((wrap64 (s0_1 + 1)) - 1)) * 7)) + 3)) (s0_0.length : Int)) then (if (Int.tmod (wrap64 ((wrap64 ((wrap64 ((wrap64 (s0_1 + 1)) - 1)) * 7)) + 3)) (s0_0.length : Int)) < (s0_0.length : Int) then (if a1 = 0 then (none) else (some (Int.tmod (Go.bits .xor .i64 (wrap64 ((wrap64 ((wrap64 ((wrap64 ((wrap64 (rd s0_0 (ji14))) * 131)) + (wrap64 ((wrap64 (rd s0_0 (Int.tmod (wrap64 ((wrap64 ((wrap64 ((wrap64 (s0_1 + 1)) - 1)) * 7)) + 3)) (s0_0.length : Int)))) * 1117)))) + (wrap64 ((wrap64 ((wrap64 (s0_1 + 1)) - 1)) * 29)))) + (wrap64 ((wrap64 (Int.tdiv (wrap64 ((wrap64 (s0_1 + 1)) - 1)) (s0_0.length : Int))) * 53)))) (wrap64 (Int.tdiv (wrap64 ((wrap64 ((wrap64 ((wrap64 ((wrap64 (rd s0_0 (ji14))) * 131)) + (wrap64 ((wrap64 (rd s0_0 (Int.tmod (wrap64 ((wrap64 ((wrap64 ((wrap64 (s0_1 + 1)) - 1)) * 7)) + 3)) (s0_0.length : Int)))) * 1117)))) + (wrap64 ((wrap64 ((wrap64 (s0_1 + 1)) - 1)) * 29)))) + (wrap64 ((wrap64 (Int.tdiv (wrap64 ((wrap64 (s0_1 + 1)) - 1)) (s0_0.length : Int))) * 53)))) 64))) a1, (wrap64 (s0_1 + 1))))) else (none)) else (none)) else (none)) else (none)) = some (r1, r2) := by first | (rw [hji14] at H; exact H) | (simp only [hji14] at H ⊢; exact H)
          by_cases c15 : 0 ≤ (ji14)
          · rw [if_pos c15] at H
            have c15b0 : decide (0 ≤ (ji14)) = true := decide_eq_true c15
            clear c15
            by_cases c16 : (ji14) < (s0_0.length : Int)
            · rw [if_pos c16] at H
              have c16b0 : decide ((ji14) < (s0_0.length : Int)) = true := decide_eq_true c16
              clear c16
              obtain ⟨ji17, hji17⟩ : ∃ j_ : Int, (Int.tmod (wrap64 ((wrap64 ((wrap64 ((wrap64 (s0_1 + 1)) - 1)) * 7)) + 3)) (s0_0.length : Int)) = j_ := ⟨_, rfl⟩
              replace H : (if 0 ≤ (ji17) then (if (ji17) < (s0_0.length : Int) then (if a1 = 0 then (none) else (some (Int.tmod (Go.bits .xor .i64 (wrap64 ((wrap64 ((wrap64 ((wrap64 ((wrap64 (rd s0_0 (ji14))) * 131)) + (wrap64 ((wrap64 (rd s0_0 (ji17))) * 1117)))) + (wrap64 ((wrap64 ((wrap64 (s0_1 + 1)) - 1)) * 29)))) + (wrap64 ((wrap64 (Int.tdiv (wrap64 ((wrap64 (s0_1 + 1)) - 1)) (s0_0.length : Int))) * 53)))) (wrap64 (Int.tdiv (wrap64 ((wrap64 ((wrap64 ((wrap64 ((wrap64 (rd s0_0 (ji14))) * 131)) + (wrap64 ((wrap64 (rd s0_0 (ji17))) * 1117)))) + (wrap64 ((wrap64 ((wrap64 (s0_1 + 1)) - 1)) * 29)))) + (wrap64 ((wrap64 (Int.tdiv (wrap64 ((wrap64 (s0_1 + 1)) - 1)) (s0_0.length : Int))) * 53)))) 64))) a1, (wrap64 (s0_1 + 1))))) else (none)) else (none)) = some (r1, r2) := by first | (rw [hji17] at H; exact H) | (simp only [hji17] at H ⊢; exact H)
              by_cases c18 : 0 ≤ (ji17)
              · rw [if_pos c18] at H
                have c18b0 : decide (0 ≤ (ji17)) = true := decide_eq_true c18
                clear c18
                by_cases c19 : (ji17) < (s0_0.length : Int)
                · rw [if_pos c19] at H
                  have c19b0 : decide ((ji17) < (s0_0.length : Int)) = true := decide_eq_true c19
                  clear c19
                  by_cases c20 : a1 = 0
                  · rw [if_pos c20] at H
                    exact absurd H (by simp)
                  · rw [if_neg c20] at H
                    have c20b0 : (a1 == 0) = false := beq_eq_false_iff_ne.mpr c20
                    have c20b1 : (a1 != 0) = true := bne_iff_ne.mpr c20
                    simp only [Option.some.injEq, Prod.mk.injEq] at H
                    obtain ⟨rfl, rfl⟩ := H
                    obtain ⟨ASz21_0, cSz21_0, HGz21, hgz21, HSz21_0⟩ := HI0.out
                    have hcz21_0 := cellS120_0 HGz21
                    have hcz21_1 := cellS120_1 HGz21
                    have hfz21_1 := Qaj HGz21 1
                    clear HGz21 hgz21
                    have p102 : 0 ≤ ((ji14) : Int) := of_decide_eq_true (by first | (with_reducible assumption) | assumption)
                    have q102 : (ji14) < (s0_0.length : Int) := of_decide_eq_true (by first | (with_reducible assumption) | assumption)
                    obtain ⟨ad102, e102, hx102_0⟩ := Kd.at_int HSz21_0 (ji14) p102 q102
                    cases e102
                    replace hx102_0 := QaI HB.out hx102_0
                    replace p102 := eq_true p102
                    replace q102 := eq_true q102
                    have p103 : 0 ≤ ((ji17) : Int) := of_decide_eq_true (by first | (with_reducible assumption) | assumption)
                    have q103 : (ji17) < (s0_0.length : Int) := of_decide_eq_true (by first | (with_reducible assumption) | assumption)
                    obtain ⟨ad103, e103, hx103_0⟩ := Kd.at_int HSz21_0 (ji17) p103 q103
                    obtain rfl : ad102 = ad103 := (by injection e103)
                    replace hx103_0 := QaI HB.out hx103_0
                    replace p103 := eq_true p103
                    replace q103 := eq_true q103
                    go_wp2
                    repeat (go_quiet (fail); try go_wp2)
                    go_ret
                    exact ⟨by first | rfl | (simp [Qan, Qao] <;> rfl) | (simp only [← hji14, ← hji17]; first | rfl | (simp [Qan, Qao] <;> rfl)) | (simp [*, Qan, Qao] <;> rfl), ki_, bx_, kk_⟩
                · rw [if_neg c19] at H
                  exact absurd H (by simp)
              · rw [if_neg c18] at H
                exact absurd H (by simp)
            · rw [if_neg c16] at H
              exact absurd H (by simp)
          · rw [if_neg c15] at H
            exact absurd H (by simp)
end Go.Proofs.Ytabcijheemjplaa.G
namespace Go.Proofs.Ytabcijheemjplaa.G
open Go.RowKit Go.Proofs.YtabcijheemjplaaW.PrintWords Go.Proofs.YtabcijheemjplaaW.PrintLast Go.Proofs.YtabcijheemjplaaW.PrintMore
attribute [local go_sem] QaQ QaR Qa3 Qa4 QaJ QaK QaS QaT
set_option linter.unusedVariables false
set_option linter.unusedSimpArgs false
def Qb4 (b : Nat) : Array Value := #[.string ⟨#[]⟩, .int .i64 0, .int .i64 0, .slice none 0 0, .nilFunc,
 .string ⟨#[110, 117, 109]⟩, .int .i64 0, .int .i64 1, .slice none 0 0, .func (.func 143) #[] #[.pointer (some ⟨b + 2, 0, none⟩)],
 .string ⟨#[116, 101, 109, 112]⟩, .int .i64 0, .int .i64 1, .slice none 0 0, .func (.func 144) #[] #[],
 .string ⟨#[115, 101, 116]⟩, .int .i64 1, .int .i64 0, .slice (some ⟨b, 0, none⟩) 1 1, .func (.func 144) #[] #[],
 .string ⟨#[100, 114, 111, 112]⟩, .int .i64 1, .int .i64 0, .slice (some ⟨b, 0, none⟩) 1 1, .nilFunc,
 .string ⟨#[97, 100, 100]⟩, .int .i64 2, .int .i64 1, .slice (some ⟨b + 3, 0, none⟩) 2 2, .nilFunc,
 .string ⟨#[115, 97, 109, 101]⟩, .int .i64 2, .int .i64 1, .slice (some ⟨b + 4, 0, none⟩) 2 2, .nilFunc,
 .string ⟨#[106, 117, 109, 112]⟩, .int .i64 0, .int .i64 0, .slice none 0 0, .func (.func 145) #[] #[],
 .string ⟨#[122, 101, 114, 111]⟩, .int .i64 1, .int .i64 0, .slice (some ⟨b, 0, none⟩) 1 1, .func (.func 145) #[] #[],
 .string ⟨#[99, 97, 108, 108]⟩, .int .i64 0, .int .i64 1, .slice none 0 0, .func (.func 146) #[] #[],
 .string ⟨#[114, 101, 116]⟩, .int .i64 1, .int .i64 0, .slice (some ⟨b, 0, none⟩) 1 1, .nilFunc,
 .string ⟨#[104, 101, 114, 101]⟩, .int .i64 0, .int .i64 1, .slice none 0 0, .nilFunc,
 .string ⟨#[115, 101, 110, 100, 101, 114]⟩, .int .i64 1, .int .i64 1, .slice (some ⟨b + 1, 0, none⟩) 1 1, .nilFunc,
 .string ⟨#[112, 101, 101, 107]⟩, .int .i64 1, .int .i64 1, .slice (some ⟨b + 1, 0, none⟩) 1 1, .func (.func 143) #[] #[.pointer (some ⟨b + 5, 0, none⟩)],
 .string ⟨#[112, 111, 107, 101]⟩, .int .i64 2, .int .i64 0, .slice (some ⟨b + 6, 0, none⟩) 2 2, .func (.func 143) #[] #[.pointer (some ⟨b + 7, 0, none⟩)],
 .string ⟨#[98, 97, 99, 107]⟩, .int .i64 2, .int .i64 1, .slice (some ⟨b + 8, 0, none⟩) 2 2, .nilFunc,
 .string ⟨#[115, 97, 121]⟩, .int .i64 1, .int .i64 0, .slice (some ⟨b, 0, none⟩) 1 1, .nilFunc,
 .string ⟨#[100, 101, 97, 100]⟩, .int .i64 1, .int .i64 1, .slice (some ⟨b + 1, 0, none⟩) 1 1, .nilFunc,
 .string ⟨#[119, 104, 101, 114, 101]⟩, .int .i64 1, .int .i64 1, .slice (some ⟨b + 1, 0, none⟩) 1 1, .nilFunc]
def Qbt (b : Nat) (w : World) : Prop :=
 w.heap[b + 9]? = some (.cells (Qb4 b) 130 (0, 0)) ∧
 w.heap[b]? = some (.cells #[.int .i64 (-1)] 3 (0, 0)) ∧ w.heap[b + 1]? = some (.cells #[.int .i64 2] 3 (0, 0)) ∧
 w.heap[b + 2]? = some (.cells #[.int .i64 100] 3 (0, 0)) ∧ w.heap[b + 3]? = some (.cells #[.int .i64 1, .int .i64 1] 3 (0, 0)) ∧
 w.heap[b + 4]? = some (.cells #[.int .i64 (-1), .int .i64 (-1)] 3 (0, 0)) ∧ w.heap[b + 5]? = some (.cells #[.int .i64 4] 3 (0, 0)) ∧
 w.heap[b + 6]? = some (.cells #[.int .i64 2, .int .i64 (-1)] 3 (0, 0)) ∧ w.heap[b + 7]? = some (.cells #[.int .i64 4] 3 (0, 0)) ∧
 w.heap[b + 8]? = some (.cells #[.int .i64 2, .int .i64 (-1)] 3 (0, 0))
theorem Qbt.kept {b : Nat} {w w' : World} (h : Qbt b w) (k : Below w.heap.size w w') : Qbt b w' := by
 obtain ⟨h9, h0, h1, h2, h3, h4, h5, h6, h7, h8⟩ := h
 exact ⟨(k.block _ (Qbr h9)).trans h9, (k.block _ (Qbr h0)).trans h0, (k.block _ (Qbr h1)).trans h1, (k.block _ (Qbr h2)).trans h2, (k.block _ (Qbr h3)).trans h3,
  (k.block _ (Qbr h4)).trans h4, (k.block _ (Qbr h5)).trans h5, (k.block _ (Qbr h6)).trans h6, (k.block _ (Qbr h7)).trans h7, (k.block _ (Qbr h8)).trans h8⟩
theorem manners_mem (w : World) (o0 o1 o2 o3 o4 o5 o6 o7 o8 o9 : Obj) :
 let W := ((((((((((w.alloc o0).alloc o1).alloc o2).alloc o3).alloc o4).alloc o5).alloc o6).alloc o7).alloc o8).alloc o9)
 W.heap[w.heap.size]? = some o0 ∧ W.heap[w.heap.size + 1]? = some o1 ∧ W.heap[w.heap.size + 2]? = some o2 ∧ W.heap[w.heap.size + 3]? = some o3 ∧ W.heap[w.heap.size + 4]? = some o4 ∧
 W.heap[w.heap.size + 5]? = some o5 ∧ W.heap[w.heap.size + 6]? = some o6 ∧ W.heap[w.heap.size + 7]? = some o7 ∧ W.heap[w.heap.size + 8]? = some o8 ∧ W.heap[w.heap.size + 9]? = some o9 ∧ Below w.heap.size w W := by
 refine ⟨?_, ?_, ?_, ?_, ?_, ?_, ?_, ?_, ?_, ?_, ?_⟩
 rotate_left 10
 · repeat (first | exact Below.refl _ _ | apply Qal)
 all_goals
  show ((((((((((w.heap.push o0).push o1).push o2).push o3).push o4).push o5).push o6).push o7).push o8).push o9)[_]? = _
  simp only [Array.getElem?_push, Array.size_push]
  repeat (first | rw [if_pos trivial] | rw [if_pos (by omega)] | rw [if_neg (by omega)])
set_option maxHeartbeats 2000000 in
set_option maxRecDepth 100000 in
theorem manners_calls (w : World) :
 Calls Try.prog 130 #[] w fun e w' => e = .returned (.slice (some ⟨w.heap.size + 9, 0, none⟩) 19 19) ∧ Qbt w.heap.size w' ∧ Below w.heap.size w w' := by
 go_enter Try.func130, Try.ntmps130
 go_wp2
 go_ret
 obtain ⟨h0, h1, h2, h3, h4, h5, h6, h7, h8, h9, hb⟩ := manners_mem w (.cells #[.int .i64 (-1)] 3 (0, 0)) (.cells #[.int .i64 2] 3 (0, 0)) (.cells #[.int .i64 100] 3 (0, 0)) (.cells #[.int .i64 1, .int .i64 1] 3 (0, 0)) (.cells #[.int .i64 (-1), .int .i64 (-1)] 3 (0, 0)) (.cells #[.int .i64 4] 3 (0, 0)) (.cells #[.int .i64 2, .int .i64 (-1)] 3 (0, 0)) (.cells #[.int .i64 4] 3 (0, 0)) (.cells #[.int .i64 2, .int .i64 (-1)] 3 (0, 0)) (.cells (Qb4 w.heap.size) 130 (0, 0))
 exact ⟨rfl, ⟨h9, h0, h1, h2, h3, h4, h5, h6, h7, h8⟩, hb⟩
end Go.Proofs.Ytabcijheemjplaa.G
namespace Go.Proofs.Ytabcijheemjplaa.G
open Go.RowKit Go.Proofs.YtabcijheemjplaaW.PrintWords Go.Proofs.YtabcijheemjplaaW.PrintLast Go.Proofs.YtabcijheemjplaaW.PrintMore
attribute [local go_sem] QaQ QaR Qa3 Qa4 QaJ QaK QaS QaT
set_option linter.unusedVariables false
set_option linter.unusedSimpArgs false
def QaE.l0 : Nat → Int → Int → List (Qac) → Int → List Int → Int → Option ((List (Qac)) × Int)
 | 0, _, _, _, _, _, _ => none
 | k + 1, x1, x2, x7, x8, x1000, x1001 => if x8 < x1 then ((Qab.f k x1000 x1001 4).bind fun bt104 => (if bt104.1 = 0 then (if x7.length < 8796093022208 then (QaE.l0 k x1 x2 (x7 ++ [(⟨11, 0⟩ : Qac)]) (wrap64 (x8 + 1)) x1000 bt104.2) else (none)) else (if bt104.1 = 1 then ((Qab.f k x1000 bt104.2 10).bind fun bt109 => (if x7.length < 8796093022208 then (QaE.l0 k x1 x2 (x7 ++ [(⟨1, bt109.1⟩ : Qac)]) (wrap64 (x8 + 1)) x1000 bt109.2) else (none))) else ((Qab.f k x1000 bt104.2 x2).bind fun bt114 => (if x7.length < 8796093022208 then (QaE.l0 k x1 x2 (x7 ++ [(⟨2, bt114.1⟩ : Qac)]) (wrap64 (x8 + 1)) x1000 bt114.2) else (none)))))) else (some (x7, x1001))
def QaE.f (k : Nat) (s0_0 : List Int) (s0_1 : Int) (a1 : Int) (a2 : Int) : Option ((List (Qac)) × Int) := QaE.l0 k a1 a2 (([] : List (Qac))) 0 s0_0 s0_1
theorem QaE.mono_l : ∀ k, (∀ y0 y1 y2 y3 y4 y5, LeO (QaE.l0 k y0 y1 y2 y3 y4 y5) (QaE.l0 (k + 1) y0 y1 y2 y3 y4 y5))
 | 0 => fun _ _ _ _ _ _ r h => by simp [QaE.l0] at h
 | k + 1 => by
   have ih0 := QaE.mono_l k
   · intro y0 y1 y2 y3 y4 y5
     unfold QaE.l0
     repeat' first
     | (with_reducible exact ih0 _ _ _ _ _ _)
     | (with_reducible exact Qab.mono _ _ _ _)
     | (with_reducible exact LeO.refl _)
     | (with_reducible exact LeO.none _)
     | (with_reducible refine LeO.ite ?_ ?_)
     | (with_reducible refine LeO.bind ?_ (fun _ => ?_))
     | exact ih0 _ _ _ _ _ _
     | exact Qab.mono _ _ _ _
     | exact LeO.none _
     | refine LeO.ite ?_ ?_
     | refine LeO.bind ?_ (fun _ => ?_)
theorem QaE.mono : ∀ a0 a1 a2 a3 k, LeO (QaE.f k a0 a1 a2 a3) (QaE.f (k + 1) a0 a1 a2 a3) := by
 intro a0 a1 a2 a3 k
 have ih0 := QaE.mono_l k
 unfold QaE.f
 repeat' first
  | (with_reducible exact ih0 _ _ _ _ _ _)
  | (with_reducible exact Qab.mono _ _ _ _)
  | (with_reducible exact LeO.refl _)
  | (with_reducible exact LeO.none _)
  | (with_reducible refine LeO.ite ?_ ?_)
  | (with_reducible refine LeO.bind ?_ (fun _ => ?_))
  | exact ih0 _ _ _ _ _ _
  | exact Qab.mono _ _ _ _
  | exact LeO.none _
  | refine LeO.ite ?_ ?_
  | refine LeO.bind ?_ (fun _ => ?_)
set_option maxHeartbeats 8000000 in
set_option maxRecDepth 100000 in
theorem QaE.calls (k : Nat) (g : Nat) (s0_0 : List Int) (s0_1 : Int) (a1 : Int) (a2 : Int) (r1 : List (Qac)) (r2 : Int) (w0 w : World) (hI : Qad w0 w g s0_0 s0_1) (hB : Below w0.heap.size w0 w) (h : QaE.f k s0_0 s0_1 a1 a2 = some (r1, r2)) :
 Calls Try.prog 140 #[.pointer (some ⟨g, 0, none⟩), .int .i64 a1, .int .i64 a2] w fun e w' => ∃ v0_ : Value, e = .returned (v0_) ∧ Kd.R QaB 83 w' w.heap.size (fun _ => True) v0_ r1 ∧ Qad w0 w' g s0_0 r2 ∧ Below w0.heap.size w0 w' ∧ Qai w w' g none := by
 have hu83 := Try.underlying83
 have HI0 := Aside0.mk hI
 have HK := Aside0.mk (Qai.refl w g none)
 have HL := Aside0.mk hB.size
 clear hI
 have HW0 := Aside0.mk hB.size
 have HB := Aside0.mk hB
 clear hB
 have H : (QaE.l0 k a1 a2 (([] : List (Qac))) 0 s0_0 s0_1) = some (r1, r2) := h
 clear h
 obtain ⟨y101, hy101⟩ : ∃ y_ : List (Qac), y_ = (([] : List (Qac))) := ⟨_, rfl⟩
 replace H : (QaE.l0 k a1 a2 y101 0 s0_0 s0_1) = some (r1, r2) := by first | (rw [hy101]; with_reducible exact H) | (have H2_ := (Option.bind_some _ _).symm.trans H; rw [hy101]; with_reducible exact H2_) | (have H2_ := (Option.bind_some _ _).symm.trans H; with_reducible exact H2_) | with_reducible exact H | (rw [hy101]; exact H) | exact H
 have Ny101 := Aside0.mk hy101
 clear hy101
 have H' := Aside0.mk H
 clear H
 go_enter Try.func140, Try.ntmps140
 go_wp2_with (first | ((with_reducible refine QaH (N := 9) rfl ?_); refine Kd.R_lit QaB _ 83 ?hg (N := 9) ?hd (xs := ([] : List (Qac))) (inner := []) (ok := fun _ => True) (okp := fun _ => True) ?hr ?hp (fun _ hk => hk) trivial (Below.refl _ _) (Nat.le_refl _) (by simp) ?_; (case hd => rfl); (case hg => rfl); (case hr => first | (go_simp; done) | (go_simp; rfl)); (case hp => exact (Qa9.none _ _)); intro v102 w4 ho5 hb hg_ hnew_; clear hg_ hnew_; (first | rw [← Ny101.out] at ho5 | (simp only [Int.reduceToNat] at ho5; rw [← Ny101.out] at ho5)); have n0_ := Aside0.mk (Kd.R_lower ho5 (QaC (w := w) (g := g) (row := none) (kk_))); have n1_ := Aside0.mk (Qad.below (ki_) hb); have n2_ := Aside0.mk (Qai.trans (kk_) (Qai.of_below hb g none) (.inl rfl)); have n3_ := Aside0.mk (Qap (bx_) hb); clear HI0; clear HK; clear HB; have HO103 := n0_; have HI0 := n1_; have HK := n2_; have HB := n3_; clear n0_ n1_ n2_ n3_; clear hb ho5))
 go_loopg [7, 8] k (fun kq v7 v8 w' => ∃ (x7_1 : List (Qac)) (x8_1 : Int) (x1001_1 : Int), v8 = .int .i64 x8_1 ∧ Aside0 (QaE.l0 kq a1 a2 x7_1 x8_1 s0_0 x1001_1 = some (r1, r2)) ∧ Aside0 (kq ≤ k) ∧ Aside0 (Kd.R QaB 83 w' w.heap.size (fun _ => True) v7 x7_1) ∧ Aside0 (Qad w0 w' g s0_0 x1001_1) ∧ Aside0 (Qai w w' g none) ∧ Aside0 (Below w0.heap.size w0 w'))
 case atStart => exact ⟨(y101), (0), (s0_1), (by first | rfl | (simp; done) | (simp [*]; done)), H', ⟨Nat.le_refl _⟩, ⟨by (refine QaP ?_); exact HO103.out⟩, ⟨ki_⟩, ⟨kk_⟩, ⟨bx_⟩⟩
 case round =>
  clear H'
  try clear c1
  try clear p2
  obtain ⟨x7_1, x8_1, x1001_1, rfl, HA, HK1, HO_7, HI0, HK, HB⟩ := hrel
  cases gk with
  | zero => exact absurd HA.out (by simp [QaE.l0])
  | succ k1 =>
    have H := HA.out
    clear HA
    simp only [QaE.l0] at H
    by_cases c6 : x8_1 < a1
    · rw [if_pos c6] at H
      have c6b0 : decide (x8_1 < a1) = true := decide_eq_true c6
      clear c6
      replace H := Option.bind_eq_some_iff.mp H
      obtain ⟨⟨t104, t105⟩, A70, H⟩ := H
      replace H : (if t104 = 0 then (if x7_1.length < 8796093022208 then (QaE.l0 k1 a1 a2 (x7_1 ++ [(⟨11, 0⟩ : Qac)]) (wrap64 (x8_1 + 1)) s0_0 t105) else (none)) else (if t104 = 1 then ((Qab.f k1 s0_0 t105 10).bind fun bt109 => (if x7_1.length < 8796093022208 then (QaE.l0 k1 a1 a2 (x7_1 ++ [(⟨1, bt109.1⟩ : Qac)]) (wrap64 (x8_1 + 1)) s0_0 bt109.2) else (none))) else ((Qab.f k1 s0_0 t105 a2).bind fun bt114 => (if x7_1.length < 8796093022208 then (QaE.l0 k1 a1 a2 (x7_1 ++ [(⟨2, bt114.1⟩ : Qac)]) (wrap64 (x8_1 + 1)) s0_0 bt114.2) else (none))))) = some (r1, r2) := H
      have A7 := Aside0.mk A70
      clear A70
      by_cases c8 : t104 = 0
      · rw [if_pos c8] at H
        have c8b0 : (t104 == 0) = true := beq_iff_eq.mpr c8
        have c8b1 : (t104 != 0) = false := bne_eq_false_iff_eq.mpr c8
        clear c8
        by_cases c9 : x7_1.length < 8796093022208
        · rw [if_pos c9] at H
          have LMc9 := Aside0.mk c9
          clear c9
          obtain ⟨y106, hy106⟩ : ∃ y_ : List (Qac), y_ = (x7_1 ++ [(⟨11, 0⟩ : Qac)]) := ⟨_, rfl⟩
          replace H : (QaE.l0 k1 a1 a2 y106 (wrap64 (x8_1 + 1)) s0_0 t105) = some (r1, r2) := by first | (rw [hy106]; with_reducible exact H) | (have H2_ := (Option.bind_some _ _).symm.trans H; rw [hy106]; with_reducible exact H2_) | (have H2_ := (Option.bind_some _ _).symm.trans H; with_reducible exact H2_) | with_reducible exact H | (rw [hy106]; exact H) | exact H
          have Ny106 := Aside0.mk hy106
          clear hy106
          have H' := Aside0.mk H
          clear H
          go_wp2_with (first | ((with_reducible refine Qax (f := 55) rfl ?_); refine QaX (some 16) rfl rfl Try.func55 (by kernel_rfl) rfl #[.pointer (some ⟨g, 0, none⟩), .int .i64 4] rfl (by (try simp only [List.map_toArray, List.map_cons, List.map_nil]); first | done | rfl | (simp only [List.length_drop, List.length_take]; rfl)) ?_; (with_reducible refine (Qab.calls k1 g s0_0 x1001_1 4 t104 t105 w0 _ ?side1 ?side2 A7.out).mono ?_); (case side1 => repeat (first | (with_reducible first | exact HI0.out | apply Qad.alloc | apply Qad.drewN | apply Qad.drew | apply Qad.set_1) | exact HI0.out)); (case side2 => repeat (first | (with_reducible first | exact HB.out | apply Qal | apply Qar | apply Qav | refine Qaw ?_ (Qad.ge HI0.out)) | exact HB.out)); rintro e w10 ⟨rfl, hi, hb, hk⟩; refine ⟨_, rfl, ?_⟩; have n0_ := Aside0.mk (Kd.R_mono (Kd.R_keep (Qad.apart (show Qad w0 _ g s0_0 x1001_1 from ki_) (by (refine QaP ?_); exact HO_7.out) (by decide)) hk (fun _ h => h.2)) (fun _ h => h.1)); have n1_ := Aside0.mk (Qai.trans (kk_) hk (.inl rfl)); have n2_ := Aside0.mk (hb); have n3_ := Aside0.mk (hi); clear HO_7; clear HK; clear HB; clear HI0; have HO_7 := n0_; have HK := n1_; have HB := n2_; have HI0 := n3_; clear n0_ n1_ n2_ n3_; (try clear hb); (try clear hb2); (try clear hk); (try clear hi)) | ((with_reducible refine QaW (b := .append) (xs := #[.tmp 26, .tmp 28]) rfl ?_); at_builtin; refine Kd.R_append QaB w.heap.size rfl (.tmp 26) (.tmp 28) 32 83 (.agg #[(.int .i64 0), (.int .i64 0)]) 16 rfl Try.underlying32 QbO rfl (by decide) (by omega) u7 x7_1 (⟨11, 0⟩ : Qac) [.int .i64 11, .int .i64 0] (fun _ => True) (fun _ => False) rfl rfl ?aP (fun _ hk => hk.elim) ?aF ?aO (Below.refl _ _) ?aS ?aL ?_; (case aP => exact Qa0 _ _ _ (⟨11, 0⟩ : Qac)); (case aF => exact (fun _ _ => trivial)); (case aO => exact (by (refine QaP ?_); exact HO_7.out)); (case aS => exact (QaC (w := w) (g := g) (row := none) (kk_))); (case aL => have := LMc9.out; omega); intro v107 w11 ho hb hg hat; rw [← Ny106.out] at ho; have n0_ := Aside0.mk (Qad.grown (ki_) hg (Qad.own_ne HI0.out HO_7.out (by decide))); have n1_ := Aside0.mk (Qa5 (bx_) HL.out hb); have n2_ := Aside0.mk (Qai.trans (kk_) (Qai.of_grown hg g) (Kd.R_base2 HO_7.out)); have n3_ := Aside0.mk (ho); clear HI0; clear HB; clear HK; clear HO_7; have HI0 := n0_; have HB := n1_; have HK := n2_; have HO108 := n3_; clear n0_ n1_ n2_ n3_; clear ho hb hg hat))
          go_roundg k1
          case measure => have := HK1.out; omega
          case rel => exact ⟨(y106), (wrap64 (x8_1 + 1)), (t105), (by first | rfl | (simp; done) | (simp [*]; done)), H', ⟨by have := HK1.out; omega⟩, ⟨by (refine QaP ?_); exact HO108.out⟩, ⟨ki_⟩, ⟨kk_⟩, ⟨bx_⟩⟩
        · rw [if_neg c9] at H
          exact absurd H (by simp)
      · rw [if_neg c8] at H
        have c8b0 : (t104 == 0) = false := beq_eq_false_iff_ne.mpr c8
        have c8b1 : (t104 != 0) = true := bne_iff_ne.mpr c8
        by_cases c12 : t104 = 1
        · rw [if_pos c12] at H
          have c12b0 : (t104 == 1) = true := beq_iff_eq.mpr c12
          have c12b1 : (t104 != 1) = false := bne_eq_false_iff_eq.mpr c12
          clear c12
          replace H := Option.bind_eq_some_iff.mp H
          obtain ⟨⟨t109, t110⟩, A130, H⟩ := H
          replace H : (if x7_1.length < 8796093022208 then (QaE.l0 k1 a1 a2 (x7_1 ++ [(⟨1, t109⟩ : Qac)]) (wrap64 (x8_1 + 1)) s0_0 t110) else (none)) = some (r1, r2) := H
          have A13 := Aside0.mk A130
          clear A130
          by_cases c14 : x7_1.length < 8796093022208
          · rw [if_pos c14] at H
            have LMc14 := Aside0.mk c14
            clear c14
            obtain ⟨y111, hy111⟩ : ∃ y_ : List (Qac), y_ = (x7_1 ++ [(⟨1, t109⟩ : Qac)]) := ⟨_, rfl⟩
            replace H : (QaE.l0 k1 a1 a2 y111 (wrap64 (x8_1 + 1)) s0_0 t110) = some (r1, r2) := by first | (rw [hy111]; with_reducible exact H) | (have H2_ := (Option.bind_some _ _).symm.trans H; rw [hy111]; with_reducible exact H2_) | (have H2_ := (Option.bind_some _ _).symm.trans H; with_reducible exact H2_) | with_reducible exact H | (rw [hy111]; exact H) | exact H
            have Ny111 := Aside0.mk hy111
            clear hy111
            have H' := Aside0.mk H
            clear H
            go_wp2_with (first | ((with_reducible refine Qax (f := 55) rfl ?_); refine QaX (some 16) rfl rfl Try.func55 (by kernel_rfl) rfl #[.pointer (some ⟨g, 0, none⟩), .int .i64 4] rfl (by (try simp only [List.map_toArray, List.map_cons, List.map_nil]); first | done | rfl | (simp only [List.length_drop, List.length_take]; rfl)) ?_; (with_reducible refine (Qab.calls k1 g s0_0 x1001_1 4 t104 t105 w0 _ ?side1 ?side2 A7.out).mono ?_); (case side1 => repeat (first | (with_reducible first | exact HI0.out | apply Qad.alloc | apply Qad.drewN | apply Qad.drew | apply Qad.set_1) | exact HI0.out)); (case side2 => repeat (first | (with_reducible first | exact HB.out | apply Qal | apply Qar | apply Qav | refine Qaw ?_ (Qad.ge HI0.out)) | exact HB.out)); rintro e w15 ⟨rfl, hi, hb, hk⟩; refine ⟨_, rfl, ?_⟩; have n0_ := Aside0.mk (Kd.R_mono (Kd.R_keep (Qad.apart (show Qad w0 _ g s0_0 x1001_1 from ki_) (by (refine QaP ?_); exact HO_7.out) (by decide)) hk (fun _ h => h.2)) (fun _ h => h.1)); have n1_ := Aside0.mk (Qai.trans (kk_) hk (.inl rfl)); have n2_ := Aside0.mk (hb); have n3_ := Aside0.mk (hi); clear HO_7; clear HK; clear HB; clear HI0; have HO_7 := n0_; have HK := n1_; have HB := n2_; have HI0 := n3_; clear n0_ n1_ n2_ n3_; (try clear hb); (try clear hb2); (try clear hk); (try clear hi)) | ((with_reducible refine Qax (f := 55) rfl ?_); refine QaX (some 34) rfl rfl Try.func55 (by kernel_rfl) rfl #[.pointer (some ⟨g, 0, none⟩), .int .i64 10] rfl (by (try simp only [List.map_toArray, List.map_cons, List.map_nil]); first | done | rfl | (simp only [List.length_drop, List.length_take]; rfl)) ?_; (with_reducible refine (Qab.calls k1 g s0_0 t105 10 t109 t110 w0 _ ?side1 ?side2 A13.out).mono ?_); (case side1 => repeat (first | (with_reducible first | exact HI0.out | apply Qad.alloc | apply Qad.drewN | apply Qad.drew | apply Qad.set_1) | exact HI0.out)); (case side2 => repeat (first | (with_reducible first | exact HB.out | apply Qal | apply Qar | apply Qav | refine Qaw ?_ (Qad.ge HI0.out)) | exact HB.out)); rintro e w16 ⟨rfl, hi, hb, hk⟩; refine ⟨_, rfl, ?_⟩; have n0_ := Aside0.mk (Kd.R_mono (Kd.R_keep (Qad.apart (show Qad w0 _ g s0_0 t105 from ki_) (by (refine QaP ?_); exact HO_7.out) (by decide)) hk (fun _ h => h.2)) (fun _ h => h.1)); have n1_ := Aside0.mk (Qai.trans (kk_) hk (.inl rfl)); have n2_ := Aside0.mk (hb); have n3_ := Aside0.mk (hi); clear HO_7; clear HK; clear HB; clear HI0; have HO_7 := n0_; have HK := n1_; have HB := n2_; have HI0 := n3_; clear n0_ n1_ n2_ n3_; (try clear hb); (try clear hb2); (try clear hk); (try clear hi)) | ((with_reducible refine QaW (b := .append) (xs := #[.tmp 32, .tmp 36]) rfl ?_); at_builtin; refine Kd.R_append QaB w.heap.size rfl (.tmp 32) (.tmp 36) 32 83 (.agg #[(.int .i64 0), (.int .i64 0)]) 16 rfl Try.underlying32 QbO rfl (by decide) (by omega) u7 x7_1 (⟨1, t109⟩ : Qac) [.int .i64 1, .int .i64 t109] (fun _ => True) (fun _ => False) rfl rfl ?aP (fun _ hk => hk.elim) ?aF ?aO (Below.refl _ _) ?aS ?aL ?_; (case aP => exact Qa0 _ _ _ (⟨1, t109⟩ : Qac)); (case aF => exact (fun _ _ => trivial)); (case aO => exact (by (refine QaP ?_); exact HO_7.out)); (case aS => exact (QaC (w := w) (g := g) (row := none) (kk_))); (case aL => have := LMc14.out; omega); intro v112 w17 ho hb hg hat; rw [← Ny111.out] at ho; have n0_ := Aside0.mk (Qad.grown (ki_) hg (Qad.own_ne HI0.out HO_7.out (by decide))); have n1_ := Aside0.mk (Qa5 (bx_) HL.out hb); have n2_ := Aside0.mk (Qai.trans (kk_) (Qai.of_grown hg g) (Kd.R_base2 HO_7.out)); have n3_ := Aside0.mk (ho); clear HI0; clear HB; clear HK; clear HO_7; have HI0 := n0_; have HB := n1_; have HK := n2_; have HO113 := n3_; clear n0_ n1_ n2_ n3_; clear ho hb hg hat))
            go_roundg k1
            case measure => have := HK1.out; omega
            case rel => exact ⟨(y111), (wrap64 (x8_1 + 1)), (t110), (by first | rfl | (simp; done) | (simp [*]; done)), H', ⟨by have := HK1.out; omega⟩, ⟨by (refine QaP ?_); exact HO113.out⟩, ⟨ki_⟩, ⟨kk_⟩, ⟨bx_⟩⟩
          · rw [if_neg c14] at H
            exact absurd H (by simp)
        · rw [if_neg c12] at H
          have c12b0 : (t104 == 1) = false := beq_eq_false_iff_ne.mpr c12
          have c12b1 : (t104 != 1) = true := bne_iff_ne.mpr c12
          replace H := Option.bind_eq_some_iff.mp H
          obtain ⟨⟨t114, t115⟩, A180, H⟩ := H
          replace H : (if x7_1.length < 8796093022208 then (QaE.l0 k1 a1 a2 (x7_1 ++ [(⟨2, t114⟩ : Qac)]) (wrap64 (x8_1 + 1)) s0_0 t115) else (none)) = some (r1, r2) := H
          have A18 := Aside0.mk A180
          clear A180
          by_cases c19 : x7_1.length < 8796093022208
          · rw [if_pos c19] at H
            have LMc19 := Aside0.mk c19
            clear c19
            obtain ⟨y116, hy116⟩ : ∃ y_ : List (Qac), y_ = (x7_1 ++ [(⟨2, t114⟩ : Qac)]) := ⟨_, rfl⟩
            replace H : (QaE.l0 k1 a1 a2 y116 (wrap64 (x8_1 + 1)) s0_0 t115) = some (r1, r2) := by first | (rw [hy116]; with_reducible exact H) | (have H2_ := (Option.bind_some _ _).symm.trans H; rw [hy116]; with_reducible exact H2_) | (have H2_ := (Option.bind_some _ _).symm.trans H; with_reducible exact H2_) | with_reducible exact H | (rw [hy116]; exact H) | exact H
            have Ny116 := Aside0.mk hy116
            clear hy116
            have H' := Aside0.mk H
            clear H
            go_wp2_with (first | ((with_reducible refine Qax (f := 55) rfl ?_); refine QaX (some 16) rfl rfl Try.func55 (by kernel_rfl) rfl #[.pointer (some ⟨g, 0, none⟩), .int .i64 4] rfl (by (try simp only [List.map_toArray, List.map_cons, List.map_nil]); first | done | rfl | (simp only [List.length_drop, List.length_take]; rfl)) ?_; (with_reducible refine (Qab.calls k1 g s0_0 x1001_1 4 t104 t105 w0 _ ?side1 ?side2 A7.out).mono ?_); (case side1 => repeat (first | (with_reducible first | exact HI0.out | apply Qad.alloc | apply Qad.drewN | apply Qad.drew | apply Qad.set_1) | exact HI0.out)); (case side2 => repeat (first | (with_reducible first | exact HB.out | apply Qal | apply Qar | apply Qav | refine Qaw ?_ (Qad.ge HI0.out)) | exact HB.out)); rintro e w20 ⟨rfl, hi, hb, hk⟩; refine ⟨_, rfl, ?_⟩; have n0_ := Aside0.mk (Kd.R_mono (Kd.R_keep (Qad.apart (show Qad w0 _ g s0_0 x1001_1 from ki_) (by (refine QaP ?_); exact HO_7.out) (by decide)) hk (fun _ h => h.2)) (fun _ h => h.1)); have n1_ := Aside0.mk (Qai.trans (kk_) hk (.inl rfl)); have n2_ := Aside0.mk (hb); have n3_ := Aside0.mk (hi); clear HO_7; clear HK; clear HB; clear HI0; have HO_7 := n0_; have HK := n1_; have HB := n2_; have HI0 := n3_; clear n0_ n1_ n2_ n3_; (try clear hb); (try clear hb2); (try clear hk); (try clear hi)) | ((with_reducible refine Qax (f := 55) rfl ?_); refine QaX (some 20) rfl rfl Try.func55 (by kernel_rfl) rfl #[.pointer (some ⟨g, 0, none⟩), .int .i64 a2] rfl (by (try simp only [List.map_toArray, List.map_cons, List.map_nil]); first | done | rfl | (simp only [List.length_drop, List.length_take]; rfl)) ?_; (with_reducible refine (Qab.calls k1 g s0_0 t105 a2 t114 t115 w0 _ ?side1 ?side2 A18.out).mono ?_); (case side1 => repeat (first | (with_reducible first | exact HI0.out | apply Qad.alloc | apply Qad.drewN | apply Qad.drew | apply Qad.set_1) | exact HI0.out)); (case side2 => repeat (first | (with_reducible first | exact HB.out | apply Qal | apply Qar | apply Qav | refine Qaw ?_ (Qad.ge HI0.out)) | exact HB.out)); rintro e w21 ⟨rfl, hi, hb, hk⟩; refine ⟨_, rfl, ?_⟩; have n0_ := Aside0.mk (Kd.R_mono (Kd.R_keep (Qad.apart (show Qad w0 _ g s0_0 t105 from ki_) (by (refine QaP ?_); exact HO_7.out) (by decide)) hk (fun _ h => h.2)) (fun _ h => h.1)); have n1_ := Aside0.mk (Qai.trans (kk_) hk (.inl rfl)); have n2_ := Aside0.mk (hb); have n3_ := Aside0.mk (hi); clear HO_7; clear HK; clear HB; clear HI0; have HO_7 := n0_; have HK := n1_; have HB := n2_; have HI0 := n3_; clear n0_ n1_ n2_ n3_; (try clear hb); (try clear hb2); (try clear hk); (try clear hi)) | ((with_reducible refine QaW (b := .append) (xs := #[.tmp 17, .tmp 22]) rfl ?_); at_builtin; refine Kd.R_append QaB w.heap.size rfl (.tmp 17) (.tmp 22) 32 83 (.agg #[(.int .i64 0), (.int .i64 0)]) 16 rfl Try.underlying32 QbO rfl (by decide) (by omega) u7 x7_1 (⟨2, t114⟩ : Qac) [.int .i64 2, .int .i64 t114] (fun _ => True) (fun _ => False) rfl rfl ?aP (fun _ hk => hk.elim) ?aF ?aO (Below.refl _ _) ?aS ?aL ?_; (case aP => exact Qa0 _ _ _ (⟨2, t114⟩ : Qac)); (case aF => exact (fun _ _ => trivial)); (case aO => exact (by (refine QaP ?_); exact HO_7.out)); (case aS => exact (QaC (w := w) (g := g) (row := none) (kk_))); (case aL => have := LMc19.out; omega); intro v117 w22 ho hb hg hat; rw [← Ny116.out] at ho; have n0_ := Aside0.mk (Qad.grown (ki_) hg (Qad.own_ne HI0.out HO_7.out (by decide))); have n1_ := Aside0.mk (Qa5 (bx_) HL.out hb); have n2_ := Aside0.mk (Qai.trans (kk_) (Qai.of_grown hg g) (Kd.R_base2 HO_7.out)); have n3_ := Aside0.mk (ho); clear HI0; clear HB; clear HK; clear HO_7; have HI0 := n0_; have HB := n1_; have HK := n2_; have HO118 := n3_; clear n0_ n1_ n2_ n3_; clear ho hb hg hat))
            go_roundg k1
            case measure => have := HK1.out; omega
            case rel => exact ⟨(y116), (wrap64 (x8_1 + 1)), (t115), (by first | rfl | (simp; done) | (simp [*]; done)), H', ⟨by have := HK1.out; omega⟩, ⟨by (refine QaP ?_); exact HO118.out⟩, ⟨ki_⟩, ⟨kk_⟩, ⟨bx_⟩⟩
          · rw [if_neg c19] at H
            exact absurd H (by simp)
    · rw [if_neg c6] at H
      have c6b0 : decide (x8_1 < a1) = false := decide_eq_false c6
      clear c6
      simp only [Option.some.injEq, Prod.mk.injEq] at H
      obtain ⟨rfl, rfl⟩ := H
      go_wp2
      go_ret
      exact ⟨_, by first | rfl | (simp [Qan, Qao] <;> rfl) | (simp [*, Qan, Qao] <;> rfl), by (refine QaP ?_); exact HO_7.out, ki_, bx_, kk_⟩
end Go.Proofs.Ytabcijheemjplaa.G
namespace Go.Proofs.Ytabcijheemjplaa.G
open Go.RowKit Go.Proofs.YtabcijheemjplaaW.PrintWords Go.Proofs.YtabcijheemjplaaW.PrintLast Go.Proofs.YtabcijheemjplaaW.PrintMore
attribute [local go_sem] QaQ QaR Qa3 Qa4 QaJ QaK QaS QaT
set_option linter.unusedVariables false
set_option linter.unusedSimpArgs false
def QaV.f (k : Nat) (s0_0 : List Int) (s0_1 : Int) (a1 : Int) : Option (Int × Int × Int) := (Qab.f k s0_0 s0_1 4).bind fun bt102 => (if bt102.1 = 0 then (some (4, 0, bt102.2)) else (if bt102.1 = 1 then (some (16, 0, bt102.2)) else (if bt102.1 = 2 then (some (16, 0, bt102.2)) else ((Qab.f k s0_0 bt102.2 a1).bind fun bt104 => (some (3, bt104.1, bt104.2))))))
theorem QaV.mono : ∀ a0 a1 a2 k, LeO (QaV.f k a0 a1 a2) (QaV.f (k + 1) a0 a1 a2) := by
 intro a0 a1 a2 k
 unfold QaV.f
 repeat' first
  | (with_reducible exact Qab.mono _ _ _ _)
  | (with_reducible exact LeO.refl _)
  | (with_reducible exact LeO.none _)
  | (with_reducible refine LeO.ite ?_ ?_)
  | (with_reducible refine LeO.bind ?_ (fun _ => ?_))
  | exact Qab.mono _ _ _ _
  | exact LeO.none _
  | refine LeO.ite ?_ ?_
  | refine LeO.bind ?_ (fun _ => ?_)
set_option maxHeartbeats 8000000 in
set_option maxRecDepth 100000 in
theorem QaV.calls (k : Nat) (g : Nat) (s0_0 : List Int) (s0_1 : Int) (a1 : Int) (r1 : Int) (r2 : Int) (r3 : Int) (w0 w : World) (hI : Qad w0 w g s0_0 s0_1) (hB : Below w0.heap.size w0 w) (h : QaV.f k s0_0 s0_1 a1 = some (r1, r2, r3)) :
 Calls Try.prog 139 #[.pointer (some ⟨g, 0, none⟩), .int .i64 a1] w fun e w' => e = .returned (.agg #[.int .i64 r1, .int .i64 r2]) ∧ Qad w0 w' g s0_0 r3 ∧ Below w0.heap.size w0 w' ∧ Qai w w' g none := by
 have hu83 := Try.underlying83
 have HI0 := Aside0.mk hI
 have HK := Aside0.mk (Qai.refl w g none)
 have HL := Aside0.mk hB.size
 clear hI
 have HW0 := Aside0.mk hB.size
 have HB := Aside0.mk hB
 clear hB
 have H : ((Qab.f k s0_0 s0_1 4).bind fun bt102 => (if bt102.1 = 0 then (some (4, 0, bt102.2)) else (if bt102.1 = 1 then (some (16, 0, bt102.2)) else (if bt102.1 = 2 then (some (16, 0, bt102.2)) else ((Qab.f k s0_0 bt102.2 a1).bind fun bt104 => (some (3, bt104.1, bt104.2))))))) = some (r1, r2, r3) := h
 clear h
 replace H := Option.bind_eq_some_iff.mp H
 obtain ⟨⟨t102, t103⟩, A30, H⟩ := H
 replace H : (if t102 = 0 then (some (4, 0, t103)) else (if t102 = 1 then (some (16, 0, t103)) else (if t102 = 2 then (some (16, 0, t103)) else ((Qab.f k s0_0 t103 a1).bind fun bt104 => (some (3, bt104.1, bt104.2)))))) = some (r1, r2, r3) := H
 have A3 := Aside0.mk A30
 clear A30
 by_cases c4 : t102 = 0
 · rw [if_pos c4] at H
   have c4b0 : (t102 == 0) = true := beq_iff_eq.mpr c4
   have c4b1 : (t102 != 0) = false := bne_eq_false_iff_eq.mpr c4
   clear c4
   simp only [Option.some.injEq, Prod.mk.injEq] at H
   obtain ⟨rfl, rfl, rfl⟩ := H
   go_enter Try.func139, Try.ntmps139
   go_wp2_with (first | ((with_reducible refine QaH (N := 4) rfl ?_); refine QaN ?hg (N := 4) ?hd (cs := #[.int .i64 0, .int .i64 0]) (t := 83) ?hr ?_; (case hd => rfl); (case hg => rfl); (case hr => first | (go_simp; done) | (go_simp; rfl)); intro gb101 hg w5 hbox hb; have n0_ := Aside0.mk (Qad.below (ki_) hb); have n1_ := Aside0.mk (Qai.trans (kk_) (Qai.of_below hb g none) (.inl rfl)); have n2_ := Aside0.mk (Qap (bx_) hb); have n3_ := Aside0.mk (hbox); have n4_ := Aside0.mk ((by rw [hg]; exact (QaC (w := w) (g := g) (row := none) (kk_)) : w.heap.size ≤ gb101)); have n5_ := Aside0.mk ((Nat.le_trans HW0.out (by rw [hg]; exact (QaC (w := w) (g := g) (row := none) (kk_)) : w.heap.size ≤ gb101) : w0.heap.size ≤ gb101)); have n6_ := Aside0.mk ((by rw [hg]; exact Nat.ne_of_lt (Qad.lt (show Qad w0 _ g s0_0 s0_1 from ki_)) : g ≠ gb101)); have n7_ := Aside0.mk ((by rw [hg]; exact Nat.ne_of_gt (Qad.lt (show Qad w0 _ g s0_0 s0_1 from ki_)) : gb101 ≠ g)); clear HI0; clear HK; clear HB; have HI0 := n0_; have HK := n1_; have HB := n2_; have BK101 := n3_; have GW101 := n4_; have GE101 := n5_; have NB0_101 := n6_; have NB101_0 := n7_; clear n0_ n1_ n2_ n3_ n4_ n5_ n6_ n7_; clear hb hbox hg) | ((with_reducible refine Qax (f := 55) rfl ?_); refine QaX (some 6) rfl rfl Try.func55 (by kernel_rfl) rfl #[.pointer (some ⟨g, 0, none⟩), .int .i64 4] rfl (by (try simp only [List.map_toArray, List.map_cons, List.map_nil]); first | done | rfl | (simp only [List.length_drop, List.length_take]; rfl)) ?_; (with_reducible refine (Qab.calls k g s0_0 s0_1 4 t102 t103 w0 _ ?side1 ?side2 A3.out).mono ?_); (case side1 => repeat (first | (with_reducible first | exact HI0.out | apply Qad.alloc | apply Qad.drewN | apply Qad.drew | apply Qad.set_1 | refine Qad.far ?_ NB0_101.out _) | exact HI0.out)); (case side2 => repeat (first | (with_reducible first | exact HB.out | apply Qal | apply Qar | apply Qav | refine Qaw ?_ (Qad.ge HI0.out) | refine Qaw ?_ GE101.out) | exact HB.out)); rintro e w6 ⟨rfl, hi, hb, hk⟩; refine ⟨_, rfl, ?_⟩; have n0_ := Aside0.mk (Qai.blk hk (g' := gb101) (o := .cells #[.int .i64 0, .int .i64 0] 83 (0, 0)) (by (refine kb_ ?_); exact BK101.out) NB101_0.out (by simp)); have n1_ := Aside0.mk (Qai.trans (kk_) hk (.inl rfl)); have n2_ := Aside0.mk (hb); have n3_ := Aside0.mk (hi); clear BK101; clear HK; clear HB; clear HI0; have BK101 := n0_; have HK := n1_; have HB := n2_; have HI0 := n3_; clear n0_ n1_ n2_ n3_; (try clear hb); (try clear hb2); (try clear hk); (try clear hi); have hnb7 := NB101_0.out; have hnc7 := NB0_101.out; obtain ⟨hcz8_0, hcz8_1, hfz8_0, hfz8_1⟩ := Qb2 BK101.out))
   refine bodyPost_ret (results_cell_row rfl _ _ gb101 83 #[.int .i64 4, .int .i64 0] (0, 0) _ rfl (by (refine kb_ ?_); refine Qbc (cs := #[.int .i64 4, .int .i64 0]) ?_ 1 _ rfl; (refine kb_ ?_); refine Qbc (cs := #[.int .i64 0, .int .i64 0]) ?_ 0 _ rfl; (refine kb_ ?_); exact BK101.out) Try.underlying83 rfl (by kernel_rfl)) rfl ?_
   exact ⟨by first | rfl | (simp [Qan, Qao] <;> rfl) | (simp [*, Qan, Qao] <;> rfl), ki_, bx_, kk_⟩
 · rw [if_neg c4] at H
   have c4b0 : (t102 == 0) = false := beq_eq_false_iff_ne.mpr c4
   have c4b1 : (t102 != 0) = true := bne_iff_ne.mpr c4
   by_cases c9 : t102 = 1
   · rw [if_pos c9] at H
     have c9b0 : (t102 == 1) = true := beq_iff_eq.mpr c9
     have c9b1 : (t102 != 1) = false := bne_eq_false_iff_eq.mpr c9
     clear c9
     simp only [Option.some.injEq, Prod.mk.injEq] at H
     obtain ⟨rfl, rfl, rfl⟩ := H
     go_enter Try.func139, Try.ntmps139
     go_wp2_with (first | ((with_reducible refine QaH (N := 4) rfl ?_); refine QaN ?hg (N := 4) ?hd (cs := #[.int .i64 0, .int .i64 0]) (t := 83) ?hr ?_; (case hd => rfl); (case hg => rfl); (case hr => first | (go_simp; done) | (go_simp; rfl)); intro gb101 hg w10 hbox hb; have n0_ := Aside0.mk (Qad.below (ki_) hb); have n1_ := Aside0.mk (Qai.trans (kk_) (Qai.of_below hb g none) (.inl rfl)); have n2_ := Aside0.mk (Qap (bx_) hb); have n3_ := Aside0.mk (hbox); have n4_ := Aside0.mk ((by rw [hg]; exact (QaC (w := w) (g := g) (row := none) (kk_)) : w.heap.size ≤ gb101)); have n5_ := Aside0.mk ((Nat.le_trans HW0.out (by rw [hg]; exact (QaC (w := w) (g := g) (row := none) (kk_)) : w.heap.size ≤ gb101) : w0.heap.size ≤ gb101)); have n6_ := Aside0.mk ((by rw [hg]; exact Nat.ne_of_lt (Qad.lt (show Qad w0 _ g s0_0 s0_1 from ki_)) : g ≠ gb101)); have n7_ := Aside0.mk ((by rw [hg]; exact Nat.ne_of_gt (Qad.lt (show Qad w0 _ g s0_0 s0_1 from ki_)) : gb101 ≠ g)); clear HI0; clear HK; clear HB; have HI0 := n0_; have HK := n1_; have HB := n2_; have BK101 := n3_; have GW101 := n4_; have GE101 := n5_; have NB0_101 := n6_; have NB101_0 := n7_; clear n0_ n1_ n2_ n3_ n4_ n5_ n6_ n7_; clear hb hbox hg) | ((with_reducible refine Qax (f := 55) rfl ?_); refine QaX (some 6) rfl rfl Try.func55 (by kernel_rfl) rfl #[.pointer (some ⟨g, 0, none⟩), .int .i64 4] rfl (by (try simp only [List.map_toArray, List.map_cons, List.map_nil]); first | done | rfl | (simp only [List.length_drop, List.length_take]; rfl)) ?_; (with_reducible refine (Qab.calls k g s0_0 s0_1 4 t102 t103 w0 _ ?side1 ?side2 A3.out).mono ?_); (case side1 => repeat (first | (with_reducible first | exact HI0.out | apply Qad.alloc | apply Qad.drewN | apply Qad.drew | apply Qad.set_1 | refine Qad.far ?_ NB0_101.out _) | exact HI0.out)); (case side2 => repeat (first | (with_reducible first | exact HB.out | apply Qal | apply Qar | apply Qav | refine Qaw ?_ (Qad.ge HI0.out) | refine Qaw ?_ GE101.out) | exact HB.out)); rintro e w11 ⟨rfl, hi, hb, hk⟩; refine ⟨_, rfl, ?_⟩; have n0_ := Aside0.mk (Qai.blk hk (g' := gb101) (o := .cells #[.int .i64 0, .int .i64 0] 83 (0, 0)) (by (refine kb_ ?_); exact BK101.out) NB101_0.out (by simp)); have n1_ := Aside0.mk (Qai.trans (kk_) hk (.inl rfl)); have n2_ := Aside0.mk (hb); have n3_ := Aside0.mk (hi); clear BK101; clear HK; clear HB; clear HI0; have BK101 := n0_; have HK := n1_; have HB := n2_; have HI0 := n3_; clear n0_ n1_ n2_ n3_; (try clear hb); (try clear hb2); (try clear hk); (try clear hi); have hnb12 := NB101_0.out; have hnc12 := NB0_101.out; obtain ⟨hcz13_0, hcz13_1, hfz13_0, hfz13_1⟩ := Qb2 BK101.out))
     refine bodyPost_ret (results_cell_row rfl _ _ gb101 83 #[.int .i64 16, .int .i64 0] (0, 0) _ rfl (by (refine kb_ ?_); refine Qbc (cs := #[.int .i64 16, .int .i64 0]) ?_ 1 _ rfl; (refine kb_ ?_); refine Qbc (cs := #[.int .i64 0, .int .i64 0]) ?_ 0 _ rfl; (refine kb_ ?_); exact BK101.out) Try.underlying83 rfl (by kernel_rfl)) rfl ?_
     exact ⟨by first | rfl | (simp [Qan, Qao] <;> rfl) | (simp [*, Qan, Qao] <;> rfl), ki_, bx_, kk_⟩
   · rw [if_neg c9] at H
     have c9b0 : (t102 == 1) = false := beq_eq_false_iff_ne.mpr c9
     have c9b1 : (t102 != 1) = true := bne_iff_ne.mpr c9
     by_cases c14 : t102 = 2
     · rw [if_pos c14] at H
       have c14b0 : (t102 == 2) = true := beq_iff_eq.mpr c14
       have c14b1 : (t102 != 2) = false := bne_eq_false_iff_eq.mpr c14
       clear c14
       simp only [Option.some.injEq, Prod.mk.injEq] at H
       obtain ⟨rfl, rfl, rfl⟩ := H
       go_enter Try.func139, Try.ntmps139
       go_wp2_with (first | ((with_reducible refine QaH (N := 4) rfl ?_); refine QaN ?hg (N := 4) ?hd (cs := #[.int .i64 0, .int .i64 0]) (t := 83) ?hr ?_; (case hd => rfl); (case hg => rfl); (case hr => first | (go_simp; done) | (go_simp; rfl)); intro gb101 hg w15 hbox hb; have n0_ := Aside0.mk (Qad.below (ki_) hb); have n1_ := Aside0.mk (Qai.trans (kk_) (Qai.of_below hb g none) (.inl rfl)); have n2_ := Aside0.mk (Qap (bx_) hb); have n3_ := Aside0.mk (hbox); have n4_ := Aside0.mk ((by rw [hg]; exact (QaC (w := w) (g := g) (row := none) (kk_)) : w.heap.size ≤ gb101)); have n5_ := Aside0.mk ((Nat.le_trans HW0.out (by rw [hg]; exact (QaC (w := w) (g := g) (row := none) (kk_)) : w.heap.size ≤ gb101) : w0.heap.size ≤ gb101)); have n6_ := Aside0.mk ((by rw [hg]; exact Nat.ne_of_lt (Qad.lt (show Qad w0 _ g s0_0 s0_1 from ki_)) : g ≠ gb101)); have n7_ := Aside0.mk ((by rw [hg]; exact Nat.ne_of_gt (Qad.lt (show Qad w0 _ g s0_0 s0_1 from ki_)) : gb101 ≠ g)); clear HI0; clear HK; clear HB; have HI0 := n0_; have HK := n1_; have HB := n2_; have BK101 := n3_; have GW101 := n4_; have GE101 := n5_; have NB0_101 := n6_; have NB101_0 := n7_; clear n0_ n1_ n2_ n3_ n4_ n5_ n6_ n7_; clear hb hbox hg) | ((with_reducible refine Qax (f := 55) rfl ?_); refine QaX (some 6) rfl rfl Try.func55 (by kernel_rfl) rfl #[.pointer (some ⟨g, 0, none⟩), .int .i64 4] rfl (by (try simp only [List.map_toArray, List.map_cons, List.map_nil]); first | done | rfl | (simp only [List.length_drop, List.length_take]; rfl)) ?_; (with_reducible refine (Qab.calls k g s0_0 s0_1 4 t102 t103 w0 _ ?side1 ?side2 A3.out).mono ?_); (case side1 => repeat (first | (with_reducible first | exact HI0.out | apply Qad.alloc | apply Qad.drewN | apply Qad.drew | apply Qad.set_1 | refine Qad.far ?_ NB0_101.out _) | exact HI0.out)); (case side2 => repeat (first | (with_reducible first | exact HB.out | apply Qal | apply Qar | apply Qav | refine Qaw ?_ (Qad.ge HI0.out) | refine Qaw ?_ GE101.out) | exact HB.out)); rintro e w16 ⟨rfl, hi, hb, hk⟩; refine ⟨_, rfl, ?_⟩; have n0_ := Aside0.mk (Qai.blk hk (g' := gb101) (o := .cells #[.int .i64 0, .int .i64 0] 83 (0, 0)) (by (refine kb_ ?_); exact BK101.out) NB101_0.out (by simp)); have n1_ := Aside0.mk (Qai.trans (kk_) hk (.inl rfl)); have n2_ := Aside0.mk (hb); have n3_ := Aside0.mk (hi); clear BK101; clear HK; clear HB; clear HI0; have BK101 := n0_; have HK := n1_; have HB := n2_; have HI0 := n3_; clear n0_ n1_ n2_ n3_; (try clear hb); (try clear hb2); (try clear hk); (try clear hi); have hnb17 := NB101_0.out; have hnc17 := NB0_101.out; obtain ⟨hcz18_0, hcz18_1, hfz18_0, hfz18_1⟩ := Qb2 BK101.out))
       refine bodyPost_ret (results_cell_row rfl _ _ gb101 83 #[.int .i64 16, .int .i64 0] (0, 0) _ rfl (by (refine kb_ ?_); refine Qbc (cs := #[.int .i64 16, .int .i64 0]) ?_ 1 _ rfl; (refine kb_ ?_); refine Qbc (cs := #[.int .i64 0, .int .i64 0]) ?_ 0 _ rfl; (refine kb_ ?_); exact BK101.out) Try.underlying83 rfl (by kernel_rfl)) rfl ?_
       exact ⟨by first | rfl | (simp [Qan, Qao] <;> rfl) | (simp [*, Qan, Qao] <;> rfl), ki_, bx_, kk_⟩
     · rw [if_neg c14] at H
       have c14b0 : (t102 == 2) = false := beq_eq_false_iff_ne.mpr c14
       have c14b1 : (t102 != 2) = true := bne_iff_ne.mpr c14
       replace H := Option.bind_eq_some_iff.mp H
       obtain ⟨⟨t104, t105⟩, A190, H⟩ := H
       replace H : (some (3, t104, t105)) = some (r1, r2, r3) := H
       have A19 := Aside0.mk A190
       clear A190
       simp only [Option.some.injEq, Prod.mk.injEq] at H
       obtain ⟨rfl, rfl, rfl⟩ := H
       go_enter Try.func139, Try.ntmps139
       go_wp2_with (first | ((with_reducible refine QaH (N := 4) rfl ?_); refine QaN ?hg (N := 4) ?hd (cs := #[.int .i64 0, .int .i64 0]) (t := 83) ?hr ?_; (case hd => rfl); (case hg => rfl); (case hr => first | (go_simp; done) | (go_simp; rfl)); intro gb101 hg w20 hbox hb; have n0_ := Aside0.mk (Qad.below (ki_) hb); have n1_ := Aside0.mk (Qai.trans (kk_) (Qai.of_below hb g none) (.inl rfl)); have n2_ := Aside0.mk (Qap (bx_) hb); have n3_ := Aside0.mk (hbox); have n4_ := Aside0.mk ((by rw [hg]; exact (QaC (w := w) (g := g) (row := none) (kk_)) : w.heap.size ≤ gb101)); have n5_ := Aside0.mk ((Nat.le_trans HW0.out (by rw [hg]; exact (QaC (w := w) (g := g) (row := none) (kk_)) : w.heap.size ≤ gb101) : w0.heap.size ≤ gb101)); have n6_ := Aside0.mk ((by rw [hg]; exact Nat.ne_of_lt (Qad.lt (show Qad w0 _ g s0_0 s0_1 from ki_)) : g ≠ gb101)); have n7_ := Aside0.mk ((by rw [hg]; exact Nat.ne_of_gt (Qad.lt (show Qad w0 _ g s0_0 s0_1 from ki_)) : gb101 ≠ g)); clear HI0; clear HK; clear HB; have HI0 := n0_; have HK := n1_; have HB := n2_; have BK101 := n3_; have GW101 := n4_; have GE101 := n5_; have NB0_101 := n6_; have NB101_0 := n7_; clear n0_ n1_ n2_ n3_ n4_ n5_ n6_ n7_; clear hb hbox hg) | ((with_reducible refine Qax (f := 55) rfl ?_); refine QaX (some 6) rfl rfl Try.func55 (by kernel_rfl) rfl #[.pointer (some ⟨g, 0, none⟩), .int .i64 4] rfl (by (try simp only [List.map_toArray, List.map_cons, List.map_nil]); first | done | rfl | (simp only [List.length_drop, List.length_take]; rfl)) ?_; (with_reducible refine (Qab.calls k g s0_0 s0_1 4 t102 t103 w0 _ ?side1 ?side2 A3.out).mono ?_); (case side1 => repeat (first | (with_reducible first | exact HI0.out | apply Qad.alloc | apply Qad.drewN | apply Qad.drew | apply Qad.set_1 | refine Qad.far ?_ NB0_101.out _) | exact HI0.out)); (case side2 => repeat (first | (with_reducible first | exact HB.out | apply Qal | apply Qar | apply Qav | refine Qaw ?_ (Qad.ge HI0.out) | refine Qaw ?_ GE101.out) | exact HB.out)); rintro e w21 ⟨rfl, hi, hb, hk⟩; refine ⟨_, rfl, ?_⟩; have n0_ := Aside0.mk (Qai.blk hk (g' := gb101) (o := .cells #[.int .i64 0, .int .i64 0] 83 (0, 0)) (by (refine kb_ ?_); exact BK101.out) NB101_0.out (by simp)); have n1_ := Aside0.mk (Qai.trans (kk_) hk (.inl rfl)); have n2_ := Aside0.mk (hb); have n3_ := Aside0.mk (hi); clear BK101; clear HK; clear HB; clear HI0; have BK101 := n0_; have HK := n1_; have HB := n2_; have HI0 := n3_; clear n0_ n1_ n2_ n3_; (try clear hb); (try clear hb2); (try clear hk); (try clear hi)) | ((with_reducible refine Qax (f := 55) rfl ?_); refine QaX (some 16) rfl rfl Try.func55 (by kernel_rfl) rfl #[.pointer (some ⟨g, 0, none⟩), .int .i64 a1] rfl (by (try simp only [List.map_toArray, List.map_cons, List.map_nil]); first | done | rfl | (simp only [List.length_drop, List.length_take]; rfl)) ?_; (with_reducible refine (Qab.calls k g s0_0 t103 a1 t104 t105 w0 _ ?side1 ?side2 A19.out).mono ?_); (case side1 => repeat (first | (with_reducible first | exact HI0.out | apply Qad.alloc | apply Qad.drewN | apply Qad.drew | apply Qad.set_1 | refine Qad.far ?_ NB0_101.out _) | exact HI0.out)); (case side2 => repeat (first | (with_reducible first | exact HB.out | apply Qal | apply Qar | apply Qav | refine Qaw ?_ (Qad.ge HI0.out) | refine Qaw ?_ GE101.out) | exact HB.out)); rintro e w22 ⟨rfl, hi, hb, hk⟩; refine ⟨_, rfl, ?_⟩; have n0_ := Aside0.mk (Qai.blk hk (g' := gb101) (o := .cells #[.int .i64 0, .int .i64 0] 83 (0, 0)) (by (refine kb_ ?_); exact BK101.out) NB101_0.out (by simp)); have n1_ := Aside0.mk (Qai.trans (kk_) hk (.inl rfl)); have n2_ := Aside0.mk (hb); have n3_ := Aside0.mk (hi); clear BK101; clear HK; clear HB; clear HI0; have BK101 := n0_; have HK := n1_; have HB := n2_; have HI0 := n3_; clear n0_ n1_ n2_ n3_; (try clear hb); (try clear hb2); (try clear hk); (try clear hi); have hnb23 := NB101_0.out; have hnc23 := NB0_101.out; obtain ⟨hcz24_0, hcz24_1, hfz24_0, hfz24_1⟩ := Qb2 BK101.out))
       refine bodyPost_ret (results_cell_row rfl _ _ gb101 83 #[.int .i64 3, .int .i64 t104] (0, 0) _ rfl (by (refine kb_ ?_); refine Qbc (cs := #[.int .i64 3, .int .i64 0]) ?_ 1 _ rfl; (refine kb_ ?_); refine Qbc (cs := #[.int .i64 0, .int .i64 0]) ?_ 0 _ rfl; (refine kb_ ?_); exact BK101.out) Try.underlying83 rfl (by kernel_rfl)) rfl ?_
       exact ⟨by first | rfl | (simp [Qan, Qao] <;> rfl) | (simp [*, Qan, Qao] <;> rfl), ki_, bx_, kk_⟩
end Go.Proofs.Ytabcijheemjplaa.G
namespace Go.Proofs.Ytabcijheemjplaa.G
open Go.RowKit Go.Proofs.YtabcijheemjplaaW.PrintWords Go.Proofs.YtabcijheemjplaaW.PrintLast Go.Proofs.YtabcijheemjplaaW.PrintMore
attribute [local go_sem] QaQ QaR Qa3 Qa4 QaJ QaK QaS QaT
set_option linter.unusedVariables false
set_option linter.unusedSimpArgs false
def Qam.l0 : Nat → List Int → List (Qac) → Int → Option ((List (Qac)))
 | 0, _, _, _ => none
 | k + 1, x0, x3, x4 => if (wrap64 (x4 + 1)) < (x0.length : Int) then (if 0 ≤ x4 then (if x4 < (x0.length : Int) then (if 0 ≤ (wrap64 (x4 + 1)) then (if x3.length < 8796093022208 then (Qam.l0 k x0 (x3 ++ [(⟨rd x0 x4, rd x0 (wrap64 (x4 + 1))⟩ : Qac)]) (wrap64 (x4 + 2))) else (none)) else (none)) else (none)) else (none)) else (some x3)
def Qam.f (k : Nat) (l0 : List Int) : Option ((List (Qac))) := Qam.l0 k l0 (([] : List (Qac))) 0
theorem Qam.mono_l : ∀ k, (∀ y0 y1 y2, LeO (Qam.l0 k y0 y1 y2) (Qam.l0 (k + 1) y0 y1 y2))
 | 0 => fun _ _ _ r h => by simp [Qam.l0] at h
 | k + 1 => by
   have ih0 := Qam.mono_l k
   · intro y0 y1 y2
     unfold Qam.l0
     repeat' first
     | (with_reducible exact ih0 _ _ _)
     | (with_reducible exact LeO.refl _)
     | (with_reducible exact LeO.none _)
     | (with_reducible refine LeO.ite ?_ ?_)
     | (with_reducible refine LeO.bind ?_ (fun _ => ?_))
     | exact ih0 _ _ _
     | exact LeO.none _
     | refine LeO.ite ?_ ?_
     | refine LeO.bind ?_ (fun _ => ?_)
theorem Qam.mono : ∀ a0 k, LeO (Qam.f k a0) (Qam.f (k + 1) a0) := by
 intro a0 k
 have ih0 := Qam.mono_l k
 unfold Qam.f
 repeat' first
  | (with_reducible exact ih0 _ _ _)
  | (with_reducible exact LeO.refl _)
  | (with_reducible exact LeO.none _)
  | (with_reducible refine LeO.ite ?_ ?_)
  | (with_reducible refine LeO.bind ?_ (fun _ => ?_))
  | exact ih0 _ _ _
  | exact LeO.none _
  | refine LeO.ite ?_ ?_
  | refine LeO.bind ?_ (fun _ => ?_)
def Qam.T5 : Bool × List (List Nat × List Nat) := (true, [([], []), ([], []), ([], []), ([1, 2], [1, 2]), ([3], [3]), ([], []), ([], []), ([6], [6]), ([5, 7], [5, 7]), ([8], [8]), ([4, 9], [4, 9]), ([10], [10]), ([0, 11], [0, 11]), ([12, 12, 0, 1, 2, 3, 4, 5, 6, 7, 8, 9, 10, 11, 12], [0, 12])])
def Qam.B5 : List Nat := [0, 0, 0, 6, 14, 0, 0, 64, 224, 480, 1022, 2046, 4095, 8191]
theorem Qam.tab5 : rtab .any (opsOf Try.f138 5) = Qam.T5 := by kernel_rfl
theorem Qam.bits5 : QbZ Qam.T5.2 Qam.B5 = true := by kernel_rfl
set_option maxHeartbeats 8000000 in
set_option maxRecDepth 100000 in
theorem Qam.calls (k : Nat) (A0 : Option Addr) (c0 : Nat) (l0 : List Int) (r : List (Qac)) (w : World) (hr0 : Kd.C (Kd.int .i64) w A0 l0.length l0) (hc0 : l0.length ≤ c0) (h : Qam.f k l0 = some r) :
 Calls Try.prog 138 #[.slice A0 l0.length c0] w fun e w' => ∃ v0_ : Value, e = .returned (v0_) ∧ Kd.R QaB 83 w' w.heap.size (fun _ => True) v0_ r ∧ Below w.heap.size w w' := by
 have hu83 := Try.underlying83
 have HR0 := Aside0.mk hr0
 have HC0 := Aside0.mk hc0
 clear hr0 hc0
 have HB := Aside0.mk (Below.refl w.heap.size w)
 have H : (Qam.l0 k l0 (([] : List (Qac))) 0) = some r := h
 clear h
 obtain ⟨y101, hy101⟩ : ∃ y_ : List (Qac), y_ = (([] : List (Qac))) := ⟨_, rfl⟩
 replace H : (Qam.l0 k l0 y101 0) = some r := by first | (rw [hy101]; with_reducible exact H) | (have H2_ := (Option.bind_some _ _).symm.trans H; rw [hy101]; with_reducible exact H2_) | (have H2_ := (Option.bind_some _ _).symm.trans H; with_reducible exact H2_) | with_reducible exact H | (rw [hy101]; exact H) | exact H
 have Ny101 := Aside0.mk hy101
 clear hy101
 have H' := Aside0.mk H
 clear H
 go_enter Try.func138, Try.ntmps138
 go_wp2_with (first | ((with_reducible refine QaH (N := 5) rfl ?_); refine Kd.R_lit QaB _ 83 ?hg (N := 5) ?hd (xs := ([] : List (Qac))) (inner := []) (ok := fun _ => True) (okp := fun _ => True) ?hr ?hp (fun _ hk => hk) trivial (Below.refl _ _) (Nat.le_refl _) (by simp) ?_; (case hd => rfl); (case hg => rfl); (case hr => first | (go_simp; done) | (go_simp; rfl)); (case hp => exact (Qa9.none _ _)); intro v102 w2 ho3 hb hg_ hnew_; clear hg_ hnew_; (first | rw [← Ny101.out] at ho3 | (simp only [Int.reduceToNat] at ho3; rw [← Ny101.out] at ho3)); have n0_ := Aside0.mk (Kd.R_lower ho3 (QaY (bw_))); have n1_ := Aside0.mk (Qap (bw_) hb); clear HB; have HO103 := n0_; have HB := n1_; clear n0_ n1_; clear hb ho3))
 go_loopg [3, 4] k (fun kq v3 v4 w' => ∃ (x3_1 : List (Qac)) (x4_1 : Int), v4 = .int .i64 x4_1 ∧ Aside0 (Qam.l0 kq l0 x3_1 x4_1 = some r) ∧ Aside0 (kq ≤ k) ∧ Aside0 (Kd.R QaB 83 w' w.heap.size (fun _ => True) v3 x3_1) ∧ Aside0 (Below w.heap.size w w'))
 case atStart => exact ⟨(y101), (0), (by first | rfl | (simp; done) | (simp [*]; done)), H', ⟨Nat.le_refl _⟩, ⟨by (refine QaP ?_); exact HO103.out⟩, ⟨bw_⟩⟩
 case round =>
  clear H'
  try clear c1
  try clear p2
  obtain ⟨x3_1, x4_1, rfl, HA, HK1, HO_3, HB⟩ := hrel
  cases gk with
  | zero => exact absurd HA.out (by simp [Qam.l0])
  | succ k1 =>
    have H := HA.out
    clear HA
    simp only [Qam.l0] at H
    by_cases c4 : (wrap64 (x4_1 + 1)) < (l0.length : Int)
    · rw [if_pos c4] at H
      have c4b0 : decide ((wrap64 (x4_1 + 1)) < (l0.length : Int)) = true := decide_eq_true c4
      clear c4
      by_cases c5 : 0 ≤ x4_1
      · rw [if_pos c5] at H
        have c5b0 : decide (0 ≤ x4_1) = true := decide_eq_true c5
        clear c5
        by_cases c6 : x4_1 < (l0.length : Int)
        · rw [if_pos c6] at H
          have c6b0 : decide (x4_1 < (l0.length : Int)) = true := decide_eq_true c6
          clear c6
          obtain ⟨ji7, hji7⟩ : ∃ j_ : Int, (wrap64 (x4_1 + 1)) = j_ := ⟨_, rfl⟩
          replace H : (if 0 ≤ (ji7) then (if x3_1.length < 8796093022208 then (Qam.l0 k1 l0 (x3_1 ++ [(⟨rd l0 x4_1, rd l0 (ji7)⟩ : Qac)]) (wrap64 (x4_1 + 2))) else (none)) else (none)) = some r := by first | (rw [hji7] at H; exact H) | (simp only [hji7] at H ⊢; exact H)
          (try rw [hji7] at c4b0)
          have hji7w : (IntKind.i64.wrap (x4_1 + 1)) = ji7 := (Qbb _).trans hji7
          by_cases c8 : 0 ≤ (ji7)
          · rw [if_pos c8] at H
            have c8b0 : decide (0 ≤ (ji7)) = true := decide_eq_true c8
            clear c8
            by_cases c9 : x3_1.length < 8796093022208
            · rw [if_pos c9] at H
              have LMc9 := Aside0.mk c9
              clear c9
              obtain ⟨y106, hy106⟩ : ∃ y_ : List (Qac), y_ = (x3_1 ++ [(⟨rd l0 x4_1, rd l0 (ji7)⟩ : Qac)]) := ⟨_, rfl⟩
              replace H : (Qam.l0 k1 l0 y106 (wrap64 (x4_1 + 2))) = some r := by first | (rw [hy106]; with_reducible exact H) | (have H2_ := (Option.bind_some _ _).symm.trans H; rw [hy106]; with_reducible exact H2_) | (have H2_ := (Option.bind_some _ _).symm.trans H; with_reducible exact H2_) | with_reducible exact H | (rw [hy106]; exact H) | exact H
              have Ny106 := Aside0.mk hy106
              clear hy106
              have H' := Aside0.mk H
              clear H
              try go_wp2
              have n0_ := Aside0.mk (Kd.R_drew HO_3.out)
              have n1_ := Aside0.mk (Qav HB.out)
              clear HO_3
              clear HB
              have HO_3 := n0_
              have HB := n1_
              clear n0_ n1_
              have p104 : 0 ≤ (x4_1 : Int) := of_decide_eq_true (by first | (with_reducible assumption) | assumption)
              have q104 : x4_1 < (l0.length : Int) := of_decide_eq_true (by first | (with_reducible assumption) | assumption)
              obtain ⟨ad104, e104, hx104_0⟩ := Kd.at_int HR0.out x4_1 p104 q104
              have hw104_0 := hx104_0
              cases e104
              replace hx104_0 := pc_ HB hx104_0
              replace p104 := eq_true p104
              replace q104 := eq_true q104
              have p105 : 0 ≤ ((ji7) : Int) := of_decide_eq_true (by first | (with_reducible assumption) | assumption)
              have q105 : (ji7) < (l0.length : Int) := of_decide_eq_true (by first | (with_reducible assumption) | assumption)
              obtain ⟨ad105, e105, hx105_0⟩ := Kd.at_int HR0.out (ji7) p105 q105
              have hw105_0 := hx105_0
              obtain rfl : ad104 = ad105 := (by injection e105)
              replace hx105_0 := pc_ HB hx105_0
              replace p105 := eq_true p105
              replace q105 := eq_true q105
              refine Qch (n := 14) (S := fun w' => w'.cell? (ad104.add (x4_1).toNat) = some (.int .i64 (rd l0 x4_1)) ∧ w'.cell? (ad104.add ((ji7)).toNat) = some (.int .i64 (rd l0 (ji7)))) (ds := []) #[false, false, false, false, false, false, false, false, false, false, false, false, false, false] (by kernel_rfl) rfl rfl ⟨(pc_ HB hw104_0), (pc_ HB hw105_0)⟩ (fun hHeld => ?_); refine Qby Qam.tab5 Qam.bits5 (fun HT_ HW_ => ?_)
              generalize wr.drew = w10 at HO_3 HB hx104_0 hx105_0 hHeld ⊢
              refine pu_ 0 (some 13) #[true, false, false, false, false, false, false, false, false, false, false, false, false, false] rfl rfl ?_
              refine pu_ 1 (some 14) #[true, true, false, false, false, false, false, false, false, false, false, false, false, false] rfl rfl ?_
              refine pu_ 2 (some 15) #[true, true, true, false, false, false, false, false, false, false, false, false, false, false] rfl rfl ?_
              refine pu_ 3 (some 16) #[true, true, true, true, false, false, false, false, false, false, false, false, false, false] rfl rfl ?_
              refine pu_ 5 (some 18) #[true, true, true, true, false, true, false, false, false, false, false, false, false, false] rfl rfl ?_
              refine pu_ 6 (some 19) #[true, true, true, true, false, true, true, false, false, false, false, false, false, false] rfl rfl ?_
              refine pu_ 7 (some 20) #[true, true, true, true, false, true, true, true, false, false, false, false, false, false] rfl rfl ?_
              refine pu_ 8 (some 21) #[true, true, true, true, false, true, true, true, true, false, false, false, false, false] rfl rfl ?_
              refine tk_ 4 (some 17) #[true, true, true, true, true, true, true, true, true, false, false, false, false, false] rfl rfl hHeld ?_
              refine tk_ 9 (some 22) #[true, true, true, true, true, true, true, true, true, true, false, false, false, false] rfl rfl hHeld ?_
              refine pu_ 10 (some 23) #[true, true, true, true, true, true, true, true, true, true, true, false, false, false] rfl rfl ?_
              refine one_ (i := 11) (N := some 24) #[true, true, true, true, true, true, true, true, true, true, true, true, false, false] rfl rfl (Qbw HT_.out (by kernel_rfl)) (by decide) (fun K hK => ?_)
              refine value_ (w1 := ?_) (v := ?_) (by rfl) rfl ?_ ?_
              rotate_left 2
              · go_simp
                constructor
                · rfl
                · rfl
              refine hK.out _ _ ⟨(World.cell?_alloc_lt _ _ _ (World.block_lt_of_cell? _ _ ((pc_ HB hw104_0)))).trans ((pc_ HB hw104_0)), (World.cell?_alloc_lt _ _ _ (World.block_lt_of_cell? _ _ ((pc_ HB hw105_0)))).trans ((pc_ HB hw105_0))⟩ (fun hHeld => ?_)
              clear hK K
              refine Qbo (a' := ?_) ?_ ?_
              rotate_left
              · show Act.put _ (some 24) _ = _
                simp only [Act.put, List.setIfInBounds_toArray, List.set_cons_zero, List.set_cons_succ, Qbb, Qbd]
                rfl
              refine one_ (i := 12) (N := some 25) #[true, true, true, true, true, true, true, true, true, true, true, true, true, false] rfl rfl (Qbw HT_.out (by kernel_rfl)) (by decide) (fun K hK => ?_)
              refine Kd.R_append_step QaB (w0 := w) w.heap.size (by rfl) (.tmp 13) (.tmp 24) 32 83 (.agg #[(.int .i64 0), (.int .i64 0)]) 16 rfl Try.underlying32 QbO rfl (by decide) (by omega) u3 x3_1 (⟨rd l0 x4_1, rd l0 (ji7)⟩ : Qac) [.int .i64 (rd l0 x4_1), .int .i64 (rd l0 (ji7))] (fun _ => True) (fun _ => False) rfl rfl ?aP (fun _ hk => hk.elim) ?aF ?aO ?aB ?aS ?aL ?_
              (case aP => exact Qa0 _ _ _ (⟨rd l0 x4_1, rd l0 (ji7)⟩ : Qac))
              (case aB => exact (bw_))
              (case aF => exact (fun _ _ => trivial))
              (case aO => exact (by (refine QaP ?_); exact HO_3.out))
              (case aS => exact (QaY (bw_)))
              (case aL => have := LMc9.out; omega)
              intro v107 w11 ho hb hg hat
              rw [← Ny106.out] at ho
              have n0_ := Aside0.mk (hb)
              have n1_ := Aside0.mk (ho)
              clear HB
              clear HO_3
              have HB := n0_
              have HO108 := n1_
              clear n0_ n1_
              clear ho hb hg hat
              refine hK.out _ _ ⟨(pc_ HB hw104_0), (pc_ HB hw105_0)⟩ (fun hHeld => ?_)
              clear hK K
              refine Qbo (a' := ?_) ?_ ?_
              rotate_left
              · show Act.put _ (some 25) _ = _
                simp only [Act.put, List.setIfInBounds_toArray, List.set_cons_zero, List.set_cons_succ, Qbb, Qbd]
                rfl
              refine pu_ 13 (some 3) #[true, true, true, true, true, true, true, true, true, true, true, true, true, true] rfl rfl ?_
              refine done_ (QbY HT_.out (by kernel_rfl)) ?_
              try go_wp2
              go_roundg k1
              case measure => have := HK1.out; omega
              case rel => exact ⟨(y106), (wrap64 (x4_1 + 2)), (by first | rfl | (simp; done) | (simp [*]; done)), H', ⟨by have := HK1.out; omega⟩, ⟨by (refine QaP ?_); exact HO108.out⟩, ⟨bw_⟩⟩
            · rw [if_neg c9] at H
              exact absurd H (by simp)
          · rw [if_neg c8] at H
            exact absurd H (by simp)
        · rw [if_neg c6] at H
          exact absurd H (by simp)
      · rw [if_neg c5] at H
        exact absurd H (by simp)
    · rw [if_neg c4] at H
      have c4b0 : decide ((wrap64 (x4_1 + 1)) < (l0.length : Int)) = false := decide_eq_false c4
      clear c4
      obtain rfl := Option.some.inj H
      go_wp2
      go_ret
      exact ⟨_, by first | rfl | (simp [Qan, Qao] <;> rfl) | (simp [*, Qan, Qao] <;> rfl), by (refine QaP ?_); exact HO_3.out, bw_⟩
end Go.Proofs.Ytabcijheemjplaa.G
namespace Go.Proofs.Ytabcijheemjplaa.G
open Go.RowKit Go.Proofs.YtabcijheemjplaaW.PrintWords Go.Proofs.YtabcijheemjplaaW.PrintLast Go.Proofs.YtabcijheemjplaaW.PrintMore
attribute [local go_sem] QaQ QaR Qa3 Qa4 QaJ QaK QaS QaT
set_option linter.unusedVariables false
set_option linter.unusedSimpArgs false
mutual
def Qau.j0 : Nat → List (Qac) → List Int → Int → Option ((List (Qac)) × Int)
 | 0, _, _, _ => none
 | k + 1, x5, x1000, x1001 => (Qab.f k x1000 x1001 6).bind fun bt129 => (if bt129.1 = 0 then (if x5.length < 8796093022208 then (some ((x5 ++ [(⟨12, 0⟩ : Qac)]), bt129.2)) else (none)) else (if bt129.1 = 1 then (Qau.j1 k x5 bt129.1 (bt129.1 == 1) x1000 bt129.2) else (Qau.j1 k x5 bt129.1 (bt129.1 == 2) x1000 bt129.2)))
def Qau.j1 : Nat → List (Qac) → Int → Bool → List Int → Int → Option ((List (Qac)) × Int)
 | 0, _, _, _, _, _ => none
 | k + 1, x5, x23, x30, x1000, x1001 => if x30 = true then ((Qab.f k x1000 x1001 4).bind fun bt134 => (if x5.length < 8796093022208 then (some ((x5 ++ [(⟨13, bt134.1⟩ : Qac)]), bt134.2)) else (none))) else (if x23 = 3 then (if x5.length < 8796093022208 then (some ((x5 ++ [(⟨17, 0⟩ : Qac)]), x1001)) else (none)) else (if x23 = 4 then (if x5.length < 8796093022208 then (some ((x5 ++ [(⟨18, 0⟩ : Qac)]), x1001)) else (none)) else (some (x5, x1001))))
end
def Qau.f (k : Nat) (s0_0 : List Int) (s0_1 : Int) (a1 : Int) : Option ((List (Qac)) × Int) := (Qam.f k (([11, 0] : List Int))).bind fun t104 => ((Qab.f k s0_0 s0_1 5).bind fun bt107 => (if bt107.1 = 0 then ((Qab.f k s0_0 bt107.2 a1).bind fun bt109 => ((Qam.f k (([2, bt109.1] : List Int))).bind fun t114 => (Qau.j0 k t114 s0_0 bt109.2))) else (if bt107.1 = 1 then ((Qam.f k (([11, 0, 12, 0] : List Int))).bind fun t120 => (Qau.j0 k t120 s0_0 bt107.2)) else (if bt107.1 = 2 then ((Qam.f k (([11, 0, 12, 0] : List Int))).bind fun t126 => (Qau.j0 k t126 s0_0 bt107.2)) else (Qau.j0 k t104 s0_0 bt107.2)))))
theorem Qau.mono_l : ∀ k, (∀ y0 y1 y2, LeO (Qau.j0 k y0 y1 y2) (Qau.j0 (k + 1) y0 y1 y2)) ∧ (∀ y0 y1 y2 y3 y4, LeO (Qau.j1 k y0 y1 y2 y3 y4) (Qau.j1 (k + 1) y0 y1 y2 y3 y4))
 | 0 => ⟨fun _ _ _ r h => by simp [Qau.j0] at h, fun _ _ _ _ _ r h => by simp [Qau.j1] at h⟩
 | k + 1 => by
   obtain ⟨ih0, ih1⟩ := Qau.mono_l k
   refine ⟨?_, ?_⟩
   · intro y0 y1 y2
     unfold Qau.j0
     repeat' first
     | (with_reducible exact ih0 _ _ _)
     | (with_reducible exact ih1 _ _ _ _ _)
     | (with_reducible exact Qab.mono _ _ _ _)
     | (with_reducible exact Qam.mono _ _)
     | (with_reducible exact LeO.refl _)
     | (with_reducible exact LeO.none _)
     | (with_reducible refine LeO.ite ?_ ?_)
     | (with_reducible refine LeO.bind ?_ (fun _ => ?_))
     | exact ih0 _ _ _
     | exact ih1 _ _ _ _ _
     | exact Qab.mono _ _ _ _
     | exact Qam.mono _ _
     | exact LeO.none _
     | refine LeO.ite ?_ ?_
     | refine LeO.bind ?_ (fun _ => ?_)
   · intro y0 y1 y2 y3 y4
     unfold Qau.j1
     repeat' first
     | (with_reducible exact ih0 _ _ _)
     | (with_reducible exact ih1 _ _ _ _ _)
     | (with_reducible exact Qab.mono _ _ _ _)
     | (with_reducible exact Qam.mono _ _)
     | (with_reducible exact LeO.refl _)
     | (with_reducible exact LeO.none _)
     | (with_reducible refine LeO.ite ?_ ?_)
     | (with_reducible refine LeO.bind ?_ (fun _ => ?_))
     | exact ih0 _ _ _
     | exact ih1 _ _ _ _ _
     | exact Qab.mono _ _ _ _
     | exact Qam.mono _ _
     | exact LeO.none _
     | refine LeO.ite ?_ ?_
     | refine LeO.bind ?_ (fun _ => ?_)
theorem Qau.mono : ∀ a0 a1 a2 k, LeO (Qau.f k a0 a1 a2) (Qau.f (k + 1) a0 a1 a2) := by
 intro a0 a1 a2 k
 obtain ⟨ih0, ih1⟩ := Qau.mono_l k
 unfold Qau.f
 repeat' first
  | (with_reducible exact ih0 _ _ _)
  | (with_reducible exact ih1 _ _ _ _ _)
  | (with_reducible exact Qab.mono _ _ _ _)
  | (with_reducible exact Qam.mono _ _)
  | (with_reducible exact LeO.refl _)
  | (with_reducible exact LeO.none _)
  | (with_reducible refine LeO.ite ?_ ?_)
  | (with_reducible refine LeO.bind ?_ (fun _ => ?_))
  | exact ih0 _ _ _
  | exact ih1 _ _ _ _ _
  | exact Qab.mono _ _ _ _
  | exact Qam.mono _ _
  | exact LeO.none _
  | refine LeO.ite ?_ ?_
  | refine LeO.bind ?_ (fun _ => ?_)
set_option maxHeartbeats 8000000 in
set_option maxRecDepth 100000 in
theorem Qau.calls (k : Nat) (g : Nat) (s0_0 : List Int) (s0_1 : Int) (a1 : Int) (r1 : List (Qac)) (r2 : Int) (w0 w : World) (hI : Qad w0 w g s0_0 s0_1) (hB : Below w0.heap.size w0 w) (h : Qau.f k s0_0 s0_1 a1 = some (r1, r2)) :
 Calls Try.prog 141 #[.pointer (some ⟨g, 0, none⟩), .int .i64 a1] w fun e w' => ∃ v0_ : Value, e = .returned (v0_) ∧ Kd.R QaB 83 w' w.heap.size (fun _ => True) v0_ r1 ∧ Qad w0 w' g s0_0 r2 ∧ Below w0.heap.size w0 w' ∧ Qai w w' g none := by
 have hu83 := Try.underlying83
 have HI0 := Aside0.mk hI
 have HK := Aside0.mk (Qai.refl w g none)
 have HL := Aside0.mk hB.size
 clear hI
 have HW0 := Aside0.mk hB.size
 have HB := Aside0.mk hB
 clear hB
 have H : ((Qam.f k (([11, 0] : List Int))).bind fun t104 => ((Qab.f k s0_0 s0_1 5).bind fun bt107 => (if bt107.1 = 0 then ((Qab.f k s0_0 bt107.2 a1).bind fun bt109 => ((Qam.f k (([2, bt109.1] : List Int))).bind fun t114 => (Qau.j0 k t114 s0_0 bt109.2))) else (if bt107.1 = 1 then ((Qam.f k (([11, 0, 12, 0] : List Int))).bind fun t120 => (Qau.j0 k t120 s0_0 bt107.2)) else (if bt107.1 = 2 then ((Qam.f k (([11, 0, 12, 0] : List Int))).bind fun t126 => (Qau.j0 k t126 s0_0 bt107.2)) else (Qau.j0 k t104 s0_0 bt107.2)))))) = some (r1, r2) := h
 clear h
 obtain ⟨y101, hy101⟩ : ∃ y_ : List Int, y_ = (([11, 0] : List Int)) := ⟨_, rfl⟩
 replace H : ((Qam.f k y101).bind fun t104 => ((Qab.f k s0_0 s0_1 5).bind fun bt107 => (if bt107.1 = 0 then ((Qab.f k s0_0 bt107.2 a1).bind fun bt109 => ((Qam.f k (([2, bt109.1] : List Int))).bind fun t114 => (Qau.j0 k t114 s0_0 bt109.2))) else (if bt107.1 = 1 then ((Qam.f k (([11, 0, 12, 0] : List Int))).bind fun t120 => (Qau.j0 k t120 s0_0 bt107.2)) else (if bt107.1 = 2 then ((Qam.f k (([11, 0, 12, 0] : List Int))).bind fun t126 => (Qau.j0 k t126 s0_0 bt107.2)) else (Qau.j0 k t104 s0_0 bt107.2)))))) = some (r1, r2) := by first | (rw [hy101]; with_reducible exact H) | (have H2_ := (Option.bind_some _ _).symm.trans H; rw [hy101]; with_reducible exact H2_) | (have H2_ := (Option.bind_some _ _).symm.trans H; with_reducible exact H2_) | with_reducible exact H | (rw [hy101]; exact H) | exact H
 have Ny101 := Aside0.mk hy101
 clear hy101
 replace H := Option.bind_eq_some_iff.mp H
 obtain ⟨t104, A30, H⟩ := H
 replace H : ((Qab.f k s0_0 s0_1 5).bind fun bt107 => (if bt107.1 = 0 then ((Qab.f k s0_0 bt107.2 a1).bind fun bt109 => ((Qam.f k (([2, bt109.1] : List Int))).bind fun t114 => (Qau.j0 k t114 s0_0 bt109.2))) else (if bt107.1 = 1 then ((Qam.f k (([11, 0, 12, 0] : List Int))).bind fun t120 => (Qau.j0 k t120 s0_0 bt107.2)) else (if bt107.1 = 2 then ((Qam.f k (([11, 0, 12, 0] : List Int))).bind fun t126 => (Qau.j0 k t126 s0_0 bt107.2)) else (Qau.j0 k t104 s0_0 bt107.2))))) = some (r1, r2) := H
 have A3 := Aside0.mk A30
 clear A30
 replace H := Option.bind_eq_some_iff.mp H
 obtain ⟨⟨t107, t108⟩, A40, H⟩ := H
 replace H : (if t107 = 0 then ((Qab.f k s0_0 t108 a1).bind fun bt109 => ((Qam.f k (([2, bt109.1] : List Int))).bind fun t114 => (Qau.j0 k t114 s0_0 bt109.2))) else (if t107 = 1 then ((Qam.f k (([11, 0, 12, 0] : List Int))).bind fun t120 => (Qau.j0 k t120 s0_0 t108)) else (if t107 = 2 then ((Qam.f k (([11, 0, 12, 0] : List Int))).bind fun t126 => (Qau.j0 k t126 s0_0 t108)) else (Qau.j0 k t104 s0_0 t108)))) = some (r1, r2) := H
 have A4 := Aside0.mk A40
 clear A40
 have HC5 := Aside0.mk H
 clear H
 go_enter Try.func141, Try.ntmps141
 go_upto_block 0 with (first | ((with_reducible refine QaH (N := 6) rfl ?_); refine Kd.R_lit (Kd.int .i64) _ 3 ?hg (N := 6) ?hd (xs := ([11, 0] : List Int)) (inner := [.int .i64 11, .int .i64 0]) (ok := fun _ => True) (okp := fun _ => True) ?hr ?hp (fun _ hk => hk) trivial (Below.refl _ _) (Nat.le_refl _) (by simp) ?_; (case hd => rfl); (case hg => rfl); (case hr => first | (go_simp; done) | (go_simp; rfl)); (case hp => exact (Qa9.one (show Kd.M (Kd.int .i64) _ _ _ 11 [.int .i64 11] from rfl) (Qa9.one (show Kd.M (Kd.int .i64) _ _ _ 0 [.int .i64 0] from rfl) (Qa9.none _ _)))); intro v102 w6 ho7 hb hg_ hnew_; clear hg_ hnew_; (first | rw [← Ny101.out] at ho7 | (simp only [Int.reduceToNat] at ho7; rw [← Ny101.out] at ho7)); have n0_ := Aside0.mk (Kd.R_lower ho7 (QaC (w := w) (g := g) (row := none) (kk_))); have n1_ := Aside0.mk (Qad.below (ki_) hb); have n2_ := Aside0.mk (Qai.trans (kk_) (Qai.of_below hb g none) (.inl rfl)); have n3_ := Aside0.mk (Qap (bx_) hb); clear HI0; clear HK; clear HB; have HO103 := n0_; have HI0 := n1_; have HK := n2_; have HB := n3_; clear n0_ n1_ n2_ n3_; clear hb ho7; obtain ⟨Ao8, co8, eo8⟩ := Kd.R_slice HO103.out; subst eo8) | ((with_reducible refine Qax (f := 138) rfl ?_); refine QaX (some 7) rfl rfl Try.func138 (by kernel_rfl) rfl #[.slice Ao8 y101.length co8] rfl (by (try simp only [List.map_toArray, List.map_cons, List.map_nil]); first | done | rfl | (simp only [List.length_drop, List.length_take]; rfl)) ?_; (with_reducible refine (Qam.calls k _ _ y101 t104 _ ?side1 ?side2 A3.out).mono ?_); (case side1 => repeat (first | exact (Kd.R_reads' HO103.out).2.2 | (with_reducible refine Kd.C_alloc ?_ _) | (with_reducible refine Kd.C_drewN ?_ _) | (with_reducible refine Kd.C_drew ?_))); (case side2 => exact (Kd.R_reads' HO103.out).2.1); rintro e w9 ⟨v105, rfl, ho0, hb⟩; refine ⟨_, rfl, ?_⟩; have n0_ := Aside0.mk (Kd.R_below (by (refine QaP ?_); exact HO103.out) hb); have n1_ := Aside0.mk (Kd.R_lower ho0 (QaC (w := w) (g := g) (row := none) (kk_))); have n2_ := Aside0.mk (Qad.below (ki_) hb); have n3_ := Aside0.mk (Qai.trans (kk_) (Qai.of_below hb g none) (.inl rfl)); have n4_ := Aside0.mk (Qap (bx_) hb); clear HO103; clear HI0; clear HK; clear HB; have HO103 := n0_; have HO106 := n1_; have HI0 := n2_; have HK := n3_; have HB := n4_; clear n0_ n1_ n2_ n3_ n4_; (try clear hb); (try clear hb2); (try clear hk); (try clear hi); (try clear ho0)) | ((with_reducible refine Qax (f := 55) rfl ?_); refine QaX (some 9) rfl rfl Try.func55 (by kernel_rfl) rfl #[.pointer (some ⟨g, 0, none⟩), .int .i64 5] rfl (by (try simp only [List.map_toArray, List.map_cons, List.map_nil]); first | done | rfl | (simp only [List.length_drop, List.length_take]; rfl)) ?_; (with_reducible refine (Qab.calls k g s0_0 s0_1 5 t107 t108 w0 _ ?side1 ?side2 A4.out).mono ?_); (case side1 => repeat (first | (with_reducible first | exact HI0.out | apply Qad.alloc | apply Qad.drewN | apply Qad.drew | apply Qad.set_1) | exact HI0.out)); (case side2 => repeat (first | (with_reducible first | exact HB.out | apply Qal | apply Qar | apply Qav | refine Qaw ?_ (Qad.ge HI0.out)) | exact HB.out)); rintro e w10 ⟨rfl, hi, hb, hk⟩; refine ⟨_, rfl, ?_⟩; have n0_ := Aside0.mk (Kd.R_mono (Kd.R_keep (Qad.apart (show Qad w0 _ g s0_0 s0_1 from ki_) (by (refine QaP ?_); exact HO103.out) (by decide)) hk (fun _ h => h.2)) (fun _ h => h.1)); have n1_ := Aside0.mk (Kd.R_mono (Kd.R_keep (Qad.apart (show Qad w0 _ g s0_0 s0_1 from ki_) (by (refine QaP ?_); exact HO106.out) (by decide)) hk (fun _ h => h.2)) (fun _ h => h.1)); have n2_ := Aside0.mk (Qai.trans (kk_) hk (.inl rfl)); have n3_ := Aside0.mk (hb); have n4_ := Aside0.mk (hi); clear HO103; clear HO106; clear HK; clear HB; clear HI0; have HO103 := n0_; have HO106 := n1_; have HK := n2_; have HB := n3_; have HI0 := n4_; clear n0_ n1_ n2_ n3_ n4_; (try clear hb); (try clear hb2); (try clear hk); (try clear hi)))
 (try simp only [Act.put, List.setIfInBounds_toArray, List.set_cons_zero, List.set_cons_succ])
 go_cut [5] (fun v5 wc => ∃ (kq : Nat) (x5_4 : List (Qac)) (x1001_4 : Int), Aside0 (Qau.j0 kq x5_4 s0_0 x1001_4 = some (r1, r2)) ∧ Aside0 (kq ≤ k) ∧ Aside0 (Kd.R QaB 83 wc w.heap.size (fun _ => True) v5 x5_4) ∧ Aside0 (Qad w0 wc g s0_0 x1001_4) ∧ Aside0 (Qai w wc g none) ∧ Aside0 (Below w0.heap.size w0 wc))
 case first =>
  have H := HC5.out
  clear HC5
  by_cases c11 : t107 = 0
  · rw [if_pos c11] at H
    have c11b0 : (t107 == 0) = true := beq_iff_eq.mpr c11
    have c11b1 : (t107 != 0) = false := bne_eq_false_iff_eq.mpr c11
    clear c11
    (first | rw [c11b0] | (simp only [Qbb, Qbd]; rw [c11b0]) | skip)
    replace H := Option.bind_eq_some_iff.mp H
    obtain ⟨⟨t109, t110⟩, A120, H⟩ := H
    replace H : ((Qam.f k (([2, t109] : List Int))).bind fun t114 => (Qau.j0 k t114 s0_0 t110)) = some (r1, r2) := H
    have A12 := Aside0.mk A120
    clear A120
    obtain ⟨y111, hy111⟩ : ∃ y_ : List Int, y_ = (([2, t109] : List Int)) := ⟨_, rfl⟩
    replace H : ((Qam.f k y111).bind fun t114 => (Qau.j0 k t114 s0_0 t110)) = some (r1, r2) := by first | (rw [hy111]; with_reducible exact H) | (have H2_ := (Option.bind_some _ _).symm.trans H; rw [hy111]; with_reducible exact H2_) | (have H2_ := (Option.bind_some _ _).symm.trans H; with_reducible exact H2_) | with_reducible exact H | (rw [hy111]; exact H) | exact H
    have Ny111 := Aside0.mk hy111
    clear hy111
    replace H := Option.bind_eq_some_iff.mp H
    obtain ⟨t114, A130, H⟩ := H
    replace H : (Qau.j0 k t114 s0_0 t110) = some (r1, r2) := H
    have A13 := Aside0.mk A130
    clear A130
    have H' := Aside0.mk H
    clear H
    go_wp2_with (first | ((with_reducible refine Qax (f := 55) rfl ?_); refine QaX (some 14) rfl rfl Try.func55 (by kernel_rfl) rfl #[.pointer (some ⟨g, 0, none⟩), .int .i64 a1] rfl (by (try simp only [List.map_toArray, List.map_cons, List.map_nil]); first | done | rfl | (simp only [List.length_drop, List.length_take]; rfl)) ?_; (with_reducible refine (Qab.calls k g s0_0 t108 a1 t109 t110 w0 _ ?side1 ?side2 A12.out).mono ?_); (case side1 => repeat (first | (with_reducible first | exact HI0.out | apply Qad.alloc | apply Qad.drewN | apply Qad.drew | apply Qad.set_1) | exact HI0.out)); (case side2 => repeat (first | (with_reducible first | exact HB.out | apply Qal | apply Qar | apply Qav | refine Qaw ?_ (Qad.ge HI0.out)) | exact HB.out)); rintro e w14 ⟨rfl, hi, hb, hk⟩; refine ⟨_, rfl, ?_⟩; have n0_ := Aside0.mk (Kd.R_mono (Kd.R_keep (Qad.apart (show Qad w0 _ g s0_0 t108 from ki_) (by (refine QaP ?_); exact HO103.out) (by decide)) hk (fun _ h => h.2)) (fun _ h => h.1)); have n1_ := Aside0.mk (Kd.R_mono (Kd.R_keep (Qad.apart (show Qad w0 _ g s0_0 t108 from ki_) (by (refine QaP ?_); exact HO106.out) (by decide)) hk (fun _ h => h.2)) (fun _ h => h.1)); have n2_ := Aside0.mk (Qai.trans (kk_) hk (.inl rfl)); have n3_ := Aside0.mk (hb); have n4_ := Aside0.mk (hi); clear HO103; clear HO106; clear HK; clear HB; clear HI0; have HO103 := n0_; have HO106 := n1_; have HK := n2_; have HB := n3_; have HI0 := n4_; clear n0_ n1_ n2_ n3_ n4_; (try clear hb); (try clear hb2); (try clear hk); (try clear hi)) | ((with_reducible refine QaH (N := 15) rfl ?_); refine Kd.R_lit (Kd.int .i64) _ 3 ?hg (N := 15) ?hd (xs := ([2, t109] : List Int)) (inner := [.int .i64 2, .int .i64 t109]) (ok := fun _ => True) (okp := fun _ => True) ?hr ?hp (fun _ hk => hk) trivial (Below.refl _ _) (Nat.le_refl _) (by simp) ?_; (case hd => rfl); (case hg => rfl); (case hr => first | (go_simp; done) | (go_simp; rfl)); (case hp => exact (Qa9.one (show Kd.M (Kd.int .i64) _ _ _ 2 [.int .i64 2] from rfl) (Qa9.one (show Kd.M (Kd.int .i64) _ _ _ t109 [.int .i64 t109] from rfl) (Qa9.none _ _)))); intro v112 w15 ho16 hb hg_ hnew_; clear hg_ hnew_; (first | rw [← Ny111.out] at ho16 | (simp only [Int.reduceToNat] at ho16; rw [← Ny111.out] at ho16)); have n0_ := Aside0.mk (Kd.R_elder' (by (refine QaP ?_); exact HO103.out) (Kd.R_base ho16) hb); have n1_ := Aside0.mk (Kd.R_below (by (refine QaP ?_); exact HO106.out) hb); have n2_ := Aside0.mk (Kd.R_lower (Kd.R_new' ho16 (Kd.R_lt (by (refine QaP ?_); exact HO103.out))) (QaC (w := w) (g := g) (row := none) (kk_))); have n3_ := Aside0.mk (Qad.below (ki_) hb); have n4_ := Aside0.mk (Qai.trans (kk_) (Qai.of_below hb g none) (.inl rfl)); have n5_ := Aside0.mk (Qap (bx_) hb); clear HO103; clear HO106; clear HI0; clear HK; clear HB; have HO103 := n0_; have HO106 := n1_; have HO113 := n2_; have HI0 := n3_; have HK := n4_; have HB := n5_; clear n0_ n1_ n2_ n3_ n4_ n5_; clear hb ho16; obtain ⟨Ao17, co17, eo17⟩ := Kd.R_slice HO113.out; subst eo17) | ((with_reducible refine Qax (f := 138) rfl ?_); refine QaX (some 16) rfl rfl Try.func138 (by kernel_rfl) rfl #[.slice Ao17 y111.length co17] rfl (by (try simp only [List.map_toArray, List.map_cons, List.map_nil]); first | done | rfl | (simp only [List.length_drop, List.length_take]; rfl)) ?_; (with_reducible refine (Qam.calls k _ _ y111 t114 _ ?side1 ?side2 A13.out).mono ?_); (case side1 => repeat (first | exact (Kd.R_reads' HO113.out).2.2 | (with_reducible refine Kd.C_alloc ?_ _) | (with_reducible refine Kd.C_drewN ?_ _) | (with_reducible refine Kd.C_drew ?_))); (case side2 => exact (Kd.R_reads' HO113.out).2.1); rintro e w18 ⟨v115, rfl, ho0, hb⟩; refine ⟨_, rfl, ?_⟩; have n0_ := Aside0.mk (Kd.R_below (by (refine QaP ?_); exact HO103.out) hb); have n1_ := Aside0.mk (Kd.R_elder' (by (refine QaP ?_); exact HO106.out) (Kd.R_base ho0) hb); have n2_ := Aside0.mk (Kd.R_below (by (refine QaP ?_); exact HO113.out) hb); have n3_ := Aside0.mk (Kd.R_lower (Kd.R_new' ho0 (Kd.R_lt (by (refine QaP ?_); exact HO106.out))) (QaC (w := w) (g := g) (row := none) (kk_))); have n4_ := Aside0.mk (Qad.below (ki_) hb); have n5_ := Aside0.mk (Qai.trans (kk_) (Qai.of_below hb g none) (.inl rfl)); have n6_ := Aside0.mk (Qap (bx_) hb); clear HO103; clear HO106; clear HO113; clear HI0; clear HK; clear HB; have HO103 := n0_; have HO106 := n1_; have HO113 := n2_; have HO116 := n3_; have HI0 := n4_; have HK := n5_; have HB := n6_; clear n0_ n1_ n2_ n3_ n4_ n5_ n6_; (try clear hb); (try clear hb2); (try clear hk); (try clear hi); (try clear ho0)))
    go_meet
    case rel => exact ⟨_, (t114), (t110), H', ⟨by first | omega | exact Nat.le_refl _⟩, ⟨by (refine QaP ?_); exact Kd.R_mono HO116.out (fun _ hk => trivial)⟩, ⟨ki_⟩, ⟨kk_⟩, ⟨bx_⟩⟩
  · rw [if_neg c11] at H
    have c11b0 : (t107 == 0) = false := beq_eq_false_iff_ne.mpr c11
    have c11b1 : (t107 != 0) = true := bne_iff_ne.mpr c11
    (first | rw [c11b0] | (simp only [Qbb, Qbd]; rw [c11b0]) | skip)
    by_cases c19 : t107 = 1
    · rw [if_pos c19] at H
      have c19b0 : (t107 == 1) = true := beq_iff_eq.mpr c19
      have c19b1 : (t107 != 1) = false := bne_eq_false_iff_eq.mpr c19
      clear c19
      obtain ⟨y117, hy117⟩ : ∃ y_ : List Int, y_ = (([11, 0, 12, 0] : List Int)) := ⟨_, rfl⟩
      replace H : ((Qam.f k y117).bind fun t120 => (Qau.j0 k t120 s0_0 t108)) = some (r1, r2) := by first | (rw [hy117]; with_reducible exact H) | (have H2_ := (Option.bind_some _ _).symm.trans H; rw [hy117]; with_reducible exact H2_) | (have H2_ := (Option.bind_some _ _).symm.trans H; with_reducible exact H2_) | with_reducible exact H | (rw [hy117]; exact H) | exact H
      have Ny117 := Aside0.mk hy117
      clear hy117
      replace H := Option.bind_eq_some_iff.mp H
      obtain ⟨t120, A200, H⟩ := H
      replace H : (Qau.j0 k t120 s0_0 t108) = some (r1, r2) := H
      have A20 := Aside0.mk A200
      clear A200
      have H' := Aside0.mk H
      clear H
      go_wp2_with (first | ((with_reducible refine QaH (N := 20) rfl ?_); refine Kd.R_lit (Kd.int .i64) _ 3 ?hg (N := 20) ?hd (xs := ([11, 0, 12, 0] : List Int)) (inner := [.int .i64 11, .int .i64 0, .int .i64 12, .int .i64 0]) (ok := fun _ => True) (okp := fun _ => True) ?hr ?hp (fun _ hk => hk) trivial (Below.refl _ _) (Nat.le_refl _) (by simp) ?_; (case hd => rfl); (case hg => rfl); (case hr => first | (go_simp; done) | (go_simp; rfl)); (case hp => exact (Qa9.one (show Kd.M (Kd.int .i64) _ _ _ 11 [.int .i64 11] from rfl) (Qa9.one (show Kd.M (Kd.int .i64) _ _ _ 0 [.int .i64 0] from rfl) (Qa9.one (show Kd.M (Kd.int .i64) _ _ _ 12 [.int .i64 12] from rfl) (Qa9.one (show Kd.M (Kd.int .i64) _ _ _ 0 [.int .i64 0] from rfl) (Qa9.none _ _)))))); intro v118 w21 ho22 hb hg_ hnew_; clear hg_ hnew_; (first | rw [← Ny117.out] at ho22 | (simp only [Int.reduceToNat] at ho22; rw [← Ny117.out] at ho22)); have n0_ := Aside0.mk (Kd.R_elder' (by (refine QaP ?_); exact HO103.out) (Kd.R_base ho22) hb); have n1_ := Aside0.mk (Kd.R_below (by (refine QaP ?_); exact HO106.out) hb); have n2_ := Aside0.mk (Kd.R_lower (Kd.R_new' ho22 (Kd.R_lt (by (refine QaP ?_); exact HO103.out))) (QaC (w := w) (g := g) (row := none) (kk_))); have n3_ := Aside0.mk (Qad.below (ki_) hb); have n4_ := Aside0.mk (Qai.trans (kk_) (Qai.of_below hb g none) (.inl rfl)); have n5_ := Aside0.mk (Qap (bx_) hb); clear HO103; clear HO106; clear HI0; clear HK; clear HB; have HO103 := n0_; have HO106 := n1_; have HO119 := n2_; have HI0 := n3_; have HK := n4_; have HB := n5_; clear n0_ n1_ n2_ n3_ n4_ n5_; clear hb ho22; obtain ⟨Ao23, co23, eo23⟩ := Kd.R_slice HO119.out; subst eo23) | ((with_reducible refine Qax (f := 138) rfl ?_); refine QaX (some 21) rfl rfl Try.func138 (by kernel_rfl) rfl #[.slice Ao23 y117.length co23] rfl (by (try simp only [List.map_toArray, List.map_cons, List.map_nil]); first | done | rfl | (simp only [List.length_drop, List.length_take]; rfl)) ?_; (with_reducible refine (Qam.calls k _ _ y117 t120 _ ?side1 ?side2 A20.out).mono ?_); (case side1 => repeat (first | exact (Kd.R_reads' HO119.out).2.2 | (with_reducible refine Kd.C_alloc ?_ _) | (with_reducible refine Kd.C_drewN ?_ _) | (with_reducible refine Kd.C_drew ?_))); (case side2 => exact (Kd.R_reads' HO119.out).2.1); rintro e w24 ⟨v121, rfl, ho0, hb⟩; refine ⟨_, rfl, ?_⟩; have n0_ := Aside0.mk (Kd.R_below (by (refine QaP ?_); exact HO103.out) hb); have n1_ := Aside0.mk (Kd.R_elder' (by (refine QaP ?_); exact HO106.out) (Kd.R_base ho0) hb); have n2_ := Aside0.mk (Kd.R_below (by (refine QaP ?_); exact HO119.out) hb); have n3_ := Aside0.mk (Kd.R_lower (Kd.R_new' ho0 (Kd.R_lt (by (refine QaP ?_); exact HO106.out))) (QaC (w := w) (g := g) (row := none) (kk_))); have n4_ := Aside0.mk (Qad.below (ki_) hb); have n5_ := Aside0.mk (Qai.trans (kk_) (Qai.of_below hb g none) (.inl rfl)); have n6_ := Aside0.mk (Qap (bx_) hb); clear HO103; clear HO106; clear HO119; clear HI0; clear HK; clear HB; have HO103 := n0_; have HO106 := n1_; have HO119 := n2_; have HO122 := n3_; have HI0 := n4_; have HK := n5_; have HB := n6_; clear n0_ n1_ n2_ n3_ n4_ n5_ n6_; (try clear hb); (try clear hb2); (try clear hk); (try clear hi); (try clear ho0)))
      go_meet
      case rel => exact ⟨_, (t120), (t108), H', ⟨by first | omega | exact Nat.le_refl _⟩, ⟨by (refine QaP ?_); exact Kd.R_mono HO122.out (fun _ hk => trivial)⟩, ⟨ki_⟩, ⟨kk_⟩, ⟨bx_⟩⟩
    · rw [if_neg c19] at H
      have c19b0 : (t107 == 1) = false := beq_eq_false_iff_ne.mpr c19
      have c19b1 : (t107 != 1) = true := bne_iff_ne.mpr c19
      by_cases c25 : t107 = 2
      · rw [if_pos c25] at H
        have c25b0 : (t107 == 2) = true := beq_iff_eq.mpr c25
        have c25b1 : (t107 != 2) = false := bne_eq_false_iff_eq.mpr c25
        clear c25
        obtain ⟨y123, hy123⟩ : ∃ y_ : List Int, y_ = (([11, 0, 12, 0] : List Int)) := ⟨_, rfl⟩
        replace H : ((Qam.f k y123).bind fun t126 => (Qau.j0 k t126 s0_0 t108)) = some (r1, r2) := by first | (rw [hy123]; with_reducible exact H) | (have H2_ := (Option.bind_some _ _).symm.trans H; rw [hy123]; with_reducible exact H2_) | (have H2_ := (Option.bind_some _ _).symm.trans H; with_reducible exact H2_) | with_reducible exact H | (rw [hy123]; exact H) | exact H
        have Ny123 := Aside0.mk hy123
        clear hy123
        replace H := Option.bind_eq_some_iff.mp H
        obtain ⟨t126, A260, H⟩ := H
        replace H : (Qau.j0 k t126 s0_0 t108) = some (r1, r2) := H
        have A26 := Aside0.mk A260
        clear A260
        have H' := Aside0.mk H
        clear H
        go_wp2_with (first | ((with_reducible refine QaH (N := 20) rfl ?_); refine Kd.R_lit (Kd.int .i64) _ 3 ?hg (N := 20) ?hd (xs := ([11, 0, 12, 0] : List Int)) (inner := [.int .i64 11, .int .i64 0, .int .i64 12, .int .i64 0]) (ok := fun _ => True) (okp := fun _ => True) ?hr ?hp (fun _ hk => hk) trivial (Below.refl _ _) (Nat.le_refl _) (by simp) ?_; (case hd => rfl); (case hg => rfl); (case hr => first | (go_simp; done) | (go_simp; rfl)); (case hp => exact (Qa9.one (show Kd.M (Kd.int .i64) _ _ _ 11 [.int .i64 11] from rfl) (Qa9.one (show Kd.M (Kd.int .i64) _ _ _ 0 [.int .i64 0] from rfl) (Qa9.one (show Kd.M (Kd.int .i64) _ _ _ 12 [.int .i64 12] from rfl) (Qa9.one (show Kd.M (Kd.int .i64) _ _ _ 0 [.int .i64 0] from rfl) (Qa9.none _ _)))))); intro v124 w27 ho28 hb hg_ hnew_; clear hg_ hnew_; (first | rw [← Ny123.out] at ho28 | (simp only [Int.reduceToNat] at ho28; rw [← Ny123.out] at ho28)); have n0_ := Aside0.mk (Kd.R_elder' (by (refine QaP ?_); exact HO103.out) (Kd.R_base ho28) hb); have n1_ := Aside0.mk (Kd.R_below (by (refine QaP ?_); exact HO106.out) hb); have n2_ := Aside0.mk (Kd.R_lower (Kd.R_new' ho28 (Kd.R_lt (by (refine QaP ?_); exact HO103.out))) (QaC (w := w) (g := g) (row := none) (kk_))); have n3_ := Aside0.mk (Qad.below (ki_) hb); have n4_ := Aside0.mk (Qai.trans (kk_) (Qai.of_below hb g none) (.inl rfl)); have n5_ := Aside0.mk (Qap (bx_) hb); clear HO103; clear HO106; clear HI0; clear HK; clear HB; have HO103 := n0_; have HO106 := n1_; have HO125 := n2_; have HI0 := n3_; have HK := n4_; have HB := n5_; clear n0_ n1_ n2_ n3_ n4_ n5_; clear hb ho28; obtain ⟨Ao29, co29, eo29⟩ := Kd.R_slice HO125.out; subst eo29) | ((with_reducible refine Qax (f := 138) rfl ?_); refine QaX (some 21) rfl rfl Try.func138 (by kernel_rfl) rfl #[.slice Ao29 y123.length co29] rfl (by (try simp only [List.map_toArray, List.map_cons, List.map_nil]); first | done | rfl | (simp only [List.length_drop, List.length_take]; rfl)) ?_; (with_reducible refine (Qam.calls k _ _ y123 t126 _ ?side1 ?side2 A26.out).mono ?_); (case side1 => repeat (first | exact (Kd.R_reads' HO125.out).2.2 | (with_reducible refine Kd.C_alloc ?_ _) | (with_reducible refine Kd.C_drewN ?_ _) | (with_reducible refine Kd.C_drew ?_))); (case side2 => exact (Kd.R_reads' HO125.out).2.1); rintro e w30 ⟨v127, rfl, ho0, hb⟩; refine ⟨_, rfl, ?_⟩; have n0_ := Aside0.mk (Kd.R_below (by (refine QaP ?_); exact HO103.out) hb); have n1_ := Aside0.mk (Kd.R_elder' (by (refine QaP ?_); exact HO106.out) (Kd.R_base ho0) hb); have n2_ := Aside0.mk (Kd.R_below (by (refine QaP ?_); exact HO125.out) hb); have n3_ := Aside0.mk (Kd.R_lower (Kd.R_new' ho0 (Kd.R_lt (by (refine QaP ?_); exact HO106.out))) (QaC (w := w) (g := g) (row := none) (kk_))); have n4_ := Aside0.mk (Qad.below (ki_) hb); have n5_ := Aside0.mk (Qai.trans (kk_) (Qai.of_below hb g none) (.inl rfl)); have n6_ := Aside0.mk (Qap (bx_) hb); clear HO103; clear HO106; clear HO125; clear HI0; clear HK; clear HB; have HO103 := n0_; have HO106 := n1_; have HO125 := n2_; have HO128 := n3_; have HI0 := n4_; have HK := n5_; have HB := n6_; clear n0_ n1_ n2_ n3_ n4_ n5_ n6_; (try clear hb); (try clear hb2); (try clear hk); (try clear hi); (try clear ho0)))
        go_meet
        case rel => exact ⟨_, (t126), (t108), H', ⟨by first | omega | exact Nat.le_refl _⟩, ⟨by (refine QaP ?_); exact Kd.R_mono HO128.out (fun _ hk => trivial)⟩, ⟨ki_⟩, ⟨kk_⟩, ⟨bx_⟩⟩
      · rw [if_neg c25] at H
        have c25b0 : (t107 == 2) = false := beq_eq_false_iff_ne.mpr c25
        have c25b1 : (t107 != 2) = true := bne_iff_ne.mpr c25
        have H' := Aside0.mk H
        clear H
        go_wp2
        go_meet
        case rel => exact ⟨_, (t104), (t108), H', ⟨by first | omega | exact Nat.le_refl _⟩, ⟨by (refine QaP ?_); exact HO106.out⟩, ⟨ki_⟩, ⟨kk_⟩, ⟨bx_⟩⟩
 case rest =>
  clear HC5
  try clear c1
  try clear c2
  try clear p2
  try clear c5
  try clear c11
  try clear c11b0
  try clear c11b1
  try clear c13
  try clear c14
  try clear c19
  try clear c19b0
  try clear c19b1
  try clear c25
  try clear c25b0
  try clear c25b1
  obtain ⟨kq, x5_4, x1001_4, HA, HJ4, HO_5, HI0, HK, HB⟩ := hcut
  cases kq with
  | zero => exact absurd HA.out (by simp [Qau.j0])
  | succ kj4 =>
    have H := HA.out
    clear HA
    simp only [Qau.j0] at H
    replace H := Option.bind_eq_some_iff.mp H
    obtain ⟨⟨t129, t130⟩, A310, H⟩ := H
    replace H : (if t129 = 0 then (if x5_4.length < 8796093022208 then (some ((x5_4 ++ [(⟨12, 0⟩ : Qac)]), t130)) else (none)) else (if t129 = 1 then (Qau.j1 kj4 x5_4 t129 (t129 == 1) s0_0 t130) else (Qau.j1 kj4 x5_4 t129 (t129 == 2) s0_0 t130))) = some (r1, r2) := H
    have A31 := Aside0.mk A310
    clear A310
    by_cases c32 : t129 = 0
    · rw [if_pos c32] at H
      have c32b0 : (t129 == 0) = true := beq_iff_eq.mpr c32
      have c32b1 : (t129 != 0) = false := bne_eq_false_iff_eq.mpr c32
      clear c32
      by_cases c33 : x5_4.length < 8796093022208
      · rw [if_pos c33] at H
        have LMc33 := Aside0.mk c33
        clear c33
        obtain ⟨y131, hy131⟩ : ∃ y_ : List (Qac), y_ = (x5_4 ++ [(⟨12, 0⟩ : Qac)]) := ⟨_, rfl⟩
        replace H : (some (y131, t130)) = some (r1, r2) := by first | (rw [hy131]; with_reducible exact H) | (have H2_ := (Option.bind_some _ _).symm.trans H; rw [hy131]; with_reducible exact H2_) | (have H2_ := (Option.bind_some _ _).symm.trans H; with_reducible exact H2_) | with_reducible exact H | (rw [hy131]; exact H) | exact H
        have Ny131 := Aside0.mk hy131
        clear hy131
        simp only [Option.some.injEq, Prod.mk.injEq] at H
        obtain ⟨rfl, rfl⟩ := H
        go_wp2_with (first | ((with_reducible refine Qax (f := 55) rfl ?_); refine QaX (some 23) rfl rfl Try.func55 (by kernel_rfl) rfl #[.pointer (some ⟨g, 0, none⟩), .int .i64 6] rfl (by (try simp only [List.map_toArray, List.map_cons, List.map_nil]); first | done | rfl | (simp only [List.length_drop, List.length_take]; rfl)) ?_; (with_reducible refine (Qab.calls kj4 g s0_0 x1001_4 6 t129 t130 w0 _ ?side1 ?side2 A31.out).mono ?_); (case side1 => repeat (first | (with_reducible first | exact HI0.out | apply Qad.alloc | apply Qad.drewN | apply Qad.drew | apply Qad.set_1) | exact HI0.out)); (case side2 => repeat (first | (with_reducible first | exact HB.out | apply Qal | apply Qar | apply Qav | refine Qaw ?_ (Qad.ge HI0.out)) | exact HB.out)); rintro e w34 ⟨rfl, hi, hb, hk⟩; refine ⟨_, rfl, ?_⟩; have n0_ := Aside0.mk (Kd.R_mono (Kd.R_keep (Qad.apart (show Qad w0 _ g s0_0 x1001_4 from ki_) (by (refine QaP ?_); exact HO_5.out) (by decide)) hk (fun _ h => h.2)) (fun _ h => h.1)); have n1_ := Aside0.mk (Qai.trans (kk_) hk (.inl rfl)); have n2_ := Aside0.mk (hb); have n3_ := Aside0.mk (hi); clear HO_5; clear HK; clear HB; clear HI0; have HO_5 := n0_; have HK := n1_; have HB := n2_; have HI0 := n3_; clear n0_ n1_ n2_ n3_; (try clear hb); (try clear hb2); (try clear hk); (try clear hi)) | ((with_reducible refine QaW (b := .append) (xs := #[.tmp 26, .tmp 28]) rfl ?_); at_builtin; refine Kd.R_append QaB w.heap.size rfl (.tmp 26) (.tmp 28) 32 83 (.agg #[(.int .i64 0), (.int .i64 0)]) 16 rfl Try.underlying32 QbO rfl (by decide) (by omega) u5 x5_4 (⟨12, 0⟩ : Qac) [.int .i64 12, .int .i64 0] (fun _ => True) (fun _ => False) rfl rfl ?aP (fun _ hk => hk.elim) ?aF ?aO (Below.refl _ _) ?aS ?aL ?_; (case aP => exact Qa0 _ _ _ (⟨12, 0⟩ : Qac)); (case aF => exact (fun _ _ => trivial)); (case aO => exact (by (refine QaP ?_); exact HO_5.out)); (case aS => exact (QaC (w := w) (g := g) (row := none) (kk_))); (case aL => have := LMc33.out; omega); intro v132 w35 ho hb hg hat; rw [← Ny131.out] at ho; have n0_ := Aside0.mk (Qad.grown (ki_) hg (Qad.own_ne HI0.out HO_5.out (by decide))); have n1_ := Aside0.mk (Qa5 (bx_) HL.out hb); have n2_ := Aside0.mk (Qai.trans (kk_) (Qai.of_grown hg g) (Kd.R_base2 HO_5.out)); have n3_ := Aside0.mk (ho); clear HI0; clear HB; clear HK; clear HO_5; have HI0 := n0_; have HB := n1_; have HK := n2_; have HO133 := n3_; clear n0_ n1_ n2_ n3_; clear ho hb hg hat))
        go_ret
        exact ⟨_, by first | rfl | (simp [Qan, Qao] <;> rfl) | (simp [*, Qan, Qao] <;> rfl), by (refine QaP ?_); exact HO133.out, ki_, bx_, kk_⟩
      · rw [if_neg c33] at H
        exact absurd H (by simp)
    · rw [if_neg c32] at H
      have c32b0 : (t129 == 0) = false := beq_eq_false_iff_ne.mpr c32
      have c32b1 : (t129 != 0) = true := bne_iff_ne.mpr c32
      have HC36 := Aside0.mk H
      clear H
      go_upto_if 30 with (first | ((with_reducible refine Qax (f := 55) rfl ?_); refine QaX (some 23) rfl rfl Try.func55 (by kernel_rfl) rfl #[.pointer (some ⟨g, 0, none⟩), .int .i64 6] rfl (by (try simp only [List.map_toArray, List.map_cons, List.map_nil]); first | done | rfl | (simp only [List.length_drop, List.length_take]; rfl)) ?_; (with_reducible refine (Qab.calls kj4 g s0_0 x1001_4 6 t129 t130 w0 _ ?side1 ?side2 A31.out).mono ?_); (case side1 => repeat (first | (with_reducible first | exact HI0.out | apply Qad.alloc | apply Qad.drewN | apply Qad.drew | apply Qad.set_1) | exact HI0.out)); (case side2 => repeat (first | (with_reducible first | exact HB.out | apply Qal | apply Qar | apply Qav | refine Qaw ?_ (Qad.ge HI0.out)) | exact HB.out)); rintro e w37 ⟨rfl, hi, hb, hk⟩; refine ⟨_, rfl, ?_⟩; have n0_ := Aside0.mk (Kd.R_mono (Kd.R_keep (Qad.apart (show Qad w0 _ g s0_0 x1001_4 from ki_) (by (refine QaP ?_); exact HO_5.out) (by decide)) hk (fun _ h => h.2)) (fun _ h => h.1)); have n1_ := Aside0.mk (Qai.trans (kk_) hk (.inl rfl)); have n2_ := Aside0.mk (hb); have n3_ := Aside0.mk (hi); clear HO_5; clear HK; clear HB; clear HI0; have HO_5 := n0_; have HK := n1_; have HB := n2_; have HI0 := n3_; clear n0_ n1_ n2_ n3_; (try clear hb); (try clear hb2); (try clear hk); (try clear hi)))
      (try simp only [Act.put, List.setIfInBounds_toArray, List.set_cons_zero, List.set_cons_succ])
      go_cut [30] (fun v30 wc => ∃ (kq : Nat) (x30_35 : Bool), v30 = .bool x30_35 ∧ Aside0 (Qau.j1 kq x5_4 t129 x30_35 s0_0 t130 = some (r1, r2)) ∧ Aside0 (kq ≤ kj4) ∧ Aside0 (Kd.R QaB 83 wc w.heap.size (fun _ => True) u5 x5_4) ∧ Aside0 (Qad w0 wc g s0_0 t130) ∧ Aside0 (Qai w wc g none) ∧ Aside0 (Below w0.heap.size w0 wc))
      case first =>
       have H := HC36.out
       clear HC36
       by_cases c38 : t129 = 1
       · rw [if_pos c38] at H
         have c38b0 : (t129 == 1) = true := beq_iff_eq.mpr c38
         have c38b1 : (t129 != 1) = false := bne_eq_false_iff_eq.mpr c38
         clear c38
         (first | rw [c38b0] | (simp only [Qbb, Qbd]; rw [c38b0]) | skip)
         have H' := Aside0.mk H
         clear H
         go_wp2
         go_meet
         case rel => exact ⟨_, ((t129 == 1)), (by first | rfl | (simp; done) | (simp [*]; done)), H', ⟨by have := HJ4.out; first | omega | exact Nat.le_refl _⟩, ⟨by (refine QaP ?_); exact HO_5.out⟩, ⟨ki_⟩, ⟨kk_⟩, ⟨bx_⟩⟩
       · rw [if_neg c38] at H
         have c38b0 : (t129 == 1) = false := beq_eq_false_iff_ne.mpr c38
         have c38b1 : (t129 != 1) = true := bne_iff_ne.mpr c38
         (first | rw [c38b0] | (simp only [Qbb, Qbd]; rw [c38b0]) | skip)
         have H' := Aside0.mk H
         clear H
         go_wp2
         go_meet
         case rel => exact ⟨_, ((t129 == 2)), (by first | rfl | (simp; done) | (simp [*]; done)), H', ⟨by have := HJ4.out; first | omega | exact Nat.le_refl _⟩, ⟨by (refine QaP ?_); exact HO_5.out⟩, ⟨ki_⟩, ⟨kk_⟩, ⟨bx_⟩⟩
      case rest =>
       clear HC36
       try clear c1
       try clear c2
       try clear p2
       try clear c3
       try clear c5
       try clear c11
       try clear c11b0
       try clear c11b1
       try clear c13
       try clear c14
       try clear c19
       try clear c19b0
       try clear c19b1
       try clear c25
       try clear c25b0
       try clear c25b1
       try clear c32
       try clear c32b0
       try clear c32b1
       try clear c33
       try clear c38
       try clear c38b0
       try clear c38b1
       try clear p2
       obtain ⟨kq, x30_35, rfl, HA, HJ35, HO_5, HI0, HK, HB⟩ := hcut
       cases kq with
       | zero => exact absurd HA.out (by simp [Qau.j1])
       | succ kj35 =>
         have H := HA.out
         clear HA
         simp only [Qau.j1] at H
         by_cases c39 : x30_35 = true
         · subst c39
           have H1 : ((Qab.f kj35 s0_0 t130 4).bind fun bt134 => (if x5_4.length < 8796093022208 then (some ((x5_4 ++ [(⟨13, bt134.1⟩ : Qac)]), bt134.2)) else (none))) = some (r1, r2) := by rw [if_pos rfl] at H; exact H
           clear H
           have H := H1
           clear H1
           replace H := Option.bind_eq_some_iff.mp H
           obtain ⟨⟨t134, t135⟩, A400, H⟩ := H
           replace H : (if x5_4.length < 8796093022208 then (some ((x5_4 ++ [(⟨13, t134⟩ : Qac)]), t135)) else (none)) = some (r1, r2) := H
           have A40 := Aside0.mk A400
           clear A400
           by_cases c41 : x5_4.length < 8796093022208
           · rw [if_pos c41] at H
             have LMc41 := Aside0.mk c41
             clear c41
             obtain ⟨y136, hy136⟩ : ∃ y_ : List (Qac), y_ = (x5_4 ++ [(⟨13, t134⟩ : Qac)]) := ⟨_, rfl⟩
             replace H : (some (y136, t135)) = some (r1, r2) := by first | (rw [hy136]; with_reducible exact H) | (have H2_ := (Option.bind_some _ _).symm.trans H; rw [hy136]; with_reducible exact H2_) | (have H2_ := (Option.bind_some _ _).symm.trans H; with_reducible exact H2_) | with_reducible exact H | (rw [hy136]; exact H) | exact H
             have Ny136 := Aside0.mk hy136
             clear hy136
             simp only [Option.some.injEq, Prod.mk.injEq] at H
             obtain ⟨rfl, rfl⟩ := H
             go_wp2_with (first | ((with_reducible refine Qax (f := 55) rfl ?_); refine QaX (some 35) rfl rfl Try.func55 (by kernel_rfl) rfl #[.pointer (some ⟨g, 0, none⟩), .int .i64 4] rfl (by (try simp only [List.map_toArray, List.map_cons, List.map_nil]); first | done | rfl | (simp only [List.length_drop, List.length_take]; rfl)) ?_; (with_reducible refine (Qab.calls kj35 g s0_0 t130 4 t134 t135 w0 _ ?side1 ?side2 A40.out).mono ?_); (case side1 => repeat (first | (with_reducible first | exact HI0.out | apply Qad.alloc | apply Qad.drewN | apply Qad.drew | apply Qad.set_1) | exact HI0.out)); (case side2 => repeat (first | (with_reducible first | exact HB.out | apply Qal | apply Qar | apply Qav | refine Qaw ?_ (Qad.ge HI0.out)) | exact HB.out)); rintro e w42 ⟨rfl, hi, hb, hk⟩; refine ⟨_, rfl, ?_⟩; have n0_ := Aside0.mk (Kd.R_mono (Kd.R_keep (Qad.apart (show Qad w0 _ g s0_0 t130 from ki_) (by (refine QaP ?_); exact HO_5.out) (by decide)) hk (fun _ h => h.2)) (fun _ h => h.1)); have n1_ := Aside0.mk (Qai.trans (kk_) hk (.inl rfl)); have n2_ := Aside0.mk (hb); have n3_ := Aside0.mk (hi); clear HO_5; clear HK; clear HB; clear HI0; have HO_5 := n0_; have HK := n1_; have HB := n2_; have HI0 := n3_; clear n0_ n1_ n2_ n3_; (try clear hb); (try clear hb2); (try clear hk); (try clear hi)) | ((with_reducible refine QaW (b := .append) (xs := #[.tmp 33, .tmp 37]) rfl ?_); at_builtin; refine Kd.R_append QaB w.heap.size rfl (.tmp 33) (.tmp 37) 32 83 (.agg #[(.int .i64 0), (.int .i64 0)]) 16 rfl Try.underlying32 QbO rfl (by decide) (by omega) u5 x5_4 (⟨13, t134⟩ : Qac) [.int .i64 13, .int .i64 t134] (fun _ => True) (fun _ => False) rfl rfl ?aP (fun _ hk => hk.elim) ?aF ?aO (Below.refl _ _) ?aS ?aL ?_; (case aP => exact Qa0 _ _ _ (⟨13, t134⟩ : Qac)); (case aF => exact (fun _ _ => trivial)); (case aO => exact (by (refine QaP ?_); exact HO_5.out)); (case aS => exact (QaC (w := w) (g := g) (row := none) (kk_))); (case aL => have := LMc41.out; omega); intro v137 w43 ho hb hg hat; rw [← Ny136.out] at ho; have n0_ := Aside0.mk (Qad.grown (ki_) hg (Qad.own_ne HI0.out HO_5.out (by decide))); have n1_ := Aside0.mk (Qa5 (bx_) HL.out hb); have n2_ := Aside0.mk (Qai.trans (kk_) (Qai.of_grown hg g) (Kd.R_base2 HO_5.out)); have n3_ := Aside0.mk (ho); clear HI0; clear HB; clear HK; clear HO_5; have HI0 := n0_; have HB := n1_; have HK := n2_; have HO138 := n3_; clear n0_ n1_ n2_ n3_; clear ho hb hg hat))
             go_ret
             exact ⟨_, by first | rfl | (simp [Qan, Qao] <;> rfl) | (simp [*, Qan, Qao] <;> rfl), by (refine QaP ?_); exact HO138.out, ki_, bx_, kk_⟩
           · rw [if_neg c41] at H
             exact absurd H (by simp)
         · replace c39 := Bool.eq_false_iff.mpr c39
           subst c39
           have H1 : (if t129 = 3 then (if x5_4.length < 8796093022208 then (some ((x5_4 ++ [(⟨17, 0⟩ : Qac)]), t130)) else (none)) else (if t129 = 4 then (if x5_4.length < 8796093022208 then (some ((x5_4 ++ [(⟨18, 0⟩ : Qac)]), t130)) else (none)) else (some (x5_4, t130)))) = some (r1, r2) := by rw [if_neg (show ¬ (false = true) by decide)] at H; exact H
           clear H
           have H := H1
           clear H1
           by_cases c44 : t129 = 3
           · rw [if_pos c44] at H
             have c44b0 : (t129 == 3) = true := beq_iff_eq.mpr c44
             have c44b1 : (t129 != 3) = false := bne_eq_false_iff_eq.mpr c44
             clear c44
             by_cases c45 : x5_4.length < 8796093022208
             · rw [if_pos c45] at H
               have LMc45 := Aside0.mk c45
               clear c45
               obtain ⟨y139, hy139⟩ : ∃ y_ : List (Qac), y_ = (x5_4 ++ [(⟨17, 0⟩ : Qac)]) := ⟨_, rfl⟩
               replace H : (some (y139, t130)) = some (r1, r2) := by first | (rw [hy139]; with_reducible exact H) | (have H2_ := (Option.bind_some _ _).symm.trans H; rw [hy139]; with_reducible exact H2_) | (have H2_ := (Option.bind_some _ _).symm.trans H; with_reducible exact H2_) | with_reducible exact H | (rw [hy139]; exact H) | exact H
               have Ny139 := Aside0.mk hy139
               clear hy139
               simp only [Option.some.injEq, Prod.mk.injEq] at H
               obtain ⟨rfl, rfl⟩ := H
               go_wp2_with (first | ((with_reducible refine QaW (b := .append) (xs := #[.tmp 41, .tmp 43]) rfl ?_); at_builtin; refine Kd.R_append QaB w.heap.size rfl (.tmp 41) (.tmp 43) 32 83 (.agg #[(.int .i64 0), (.int .i64 0)]) 16 rfl Try.underlying32 QbO rfl (by decide) (by omega) u5 x5_4 (⟨17, 0⟩ : Qac) [.int .i64 17, .int .i64 0] (fun _ => True) (fun _ => False) rfl rfl ?aP (fun _ hk => hk.elim) ?aF ?aO (Below.refl _ _) ?aS ?aL ?_; (case aP => exact Qa0 _ _ _ (⟨17, 0⟩ : Qac)); (case aF => exact (fun _ _ => trivial)); (case aO => exact (by (refine QaP ?_); exact HO_5.out)); (case aS => exact (QaC (w := w) (g := g) (row := none) (kk_))); (case aL => have := LMc45.out; omega); intro v140 w46 ho hb hg hat; rw [← Ny139.out] at ho; have n0_ := Aside0.mk (Qad.grown (ki_) hg (Qad.own_ne HI0.out HO_5.out (by decide))); have n1_ := Aside0.mk (Qa5 (bx_) HL.out hb); have n2_ := Aside0.mk (Qai.trans (kk_) (Qai.of_grown hg g) (Kd.R_base2 HO_5.out)); have n3_ := Aside0.mk (ho); clear HI0; clear HB; clear HK; clear HO_5; have HI0 := n0_; have HB := n1_; have HK := n2_; have HO141 := n3_; clear n0_ n1_ n2_ n3_; clear ho hb hg hat))
               go_ret
               exact ⟨_, by first | rfl | (simp [Qan, Qao] <;> rfl) | (simp [*, Qan, Qao] <;> rfl), by (refine QaP ?_); exact HO141.out, ki_, bx_, kk_⟩
             · rw [if_neg c45] at H
               exact absurd H (by simp)
           · rw [if_neg c44] at H
             have c44b0 : (t129 == 3) = false := beq_eq_false_iff_ne.mpr c44
             have c44b1 : (t129 != 3) = true := bne_iff_ne.mpr c44
             by_cases c47 : t129 = 4
             · rw [if_pos c47] at H
               have c47b0 : (t129 == 4) = true := beq_iff_eq.mpr c47
               have c47b1 : (t129 != 4) = false := bne_eq_false_iff_eq.mpr c47
               clear c47
               by_cases c48 : x5_4.length < 8796093022208
               · rw [if_pos c48] at H
                 have LMc48 := Aside0.mk c48
                 clear c48
                 obtain ⟨y142, hy142⟩ : ∃ y_ : List (Qac), y_ = (x5_4 ++ [(⟨18, 0⟩ : Qac)]) := ⟨_, rfl⟩
                 replace H : (some (y142, t130)) = some (r1, r2) := by first | (rw [hy142]; with_reducible exact H) | (have H2_ := (Option.bind_some _ _).symm.trans H; rw [hy142]; with_reducible exact H2_) | (have H2_ := (Option.bind_some _ _).symm.trans H; with_reducible exact H2_) | with_reducible exact H | (rw [hy142]; exact H) | exact H
                 have Ny142 := Aside0.mk hy142
                 clear hy142
                 simp only [Option.some.injEq, Prod.mk.injEq] at H
                 obtain ⟨rfl, rfl⟩ := H
                 go_wp2_with (first | ((with_reducible refine QaW (b := .append) (xs := #[.tmp 47, .tmp 49]) rfl ?_); at_builtin; refine Kd.R_append QaB w.heap.size rfl (.tmp 47) (.tmp 49) 32 83 (.agg #[(.int .i64 0), (.int .i64 0)]) 16 rfl Try.underlying32 QbO rfl (by decide) (by omega) u5 x5_4 (⟨18, 0⟩ : Qac) [.int .i64 18, .int .i64 0] (fun _ => True) (fun _ => False) rfl rfl ?aP (fun _ hk => hk.elim) ?aF ?aO (Below.refl _ _) ?aS ?aL ?_; (case aP => exact Qa0 _ _ _ (⟨18, 0⟩ : Qac)); (case aF => exact (fun _ _ => trivial)); (case aO => exact (by (refine QaP ?_); exact HO_5.out)); (case aS => exact (QaC (w := w) (g := g) (row := none) (kk_))); (case aL => have := LMc48.out; omega); intro v143 w49 ho hb hg hat; rw [← Ny142.out] at ho; have n0_ := Aside0.mk (Qad.grown (ki_) hg (Qad.own_ne HI0.out HO_5.out (by decide))); have n1_ := Aside0.mk (Qa5 (bx_) HL.out hb); have n2_ := Aside0.mk (Qai.trans (kk_) (Qai.of_grown hg g) (Kd.R_base2 HO_5.out)); have n3_ := Aside0.mk (ho); clear HI0; clear HB; clear HK; clear HO_5; have HI0 := n0_; have HB := n1_; have HK := n2_; have HO144 := n3_; clear n0_ n1_ n2_ n3_; clear ho hb hg hat))
                 go_ret
                 exact ⟨_, by first | rfl | (simp [Qan, Qao] <;> rfl) | (simp [*, Qan, Qao] <;> rfl), by (refine QaP ?_); exact HO144.out, ki_, bx_, kk_⟩
               · rw [if_neg c48] at H
                 exact absurd H (by simp)
             · rw [if_neg c47] at H
               have c47b0 : (t129 == 4) = false := beq_eq_false_iff_ne.mpr c47
               have c47b1 : (t129 != 4) = true := bne_iff_ne.mpr c47
               simp only [Option.some.injEq, Prod.mk.injEq] at H
               obtain ⟨rfl, rfl⟩ := H
               go_wp2
               go_ret
               exact ⟨_, by first | rfl | (simp [Qan, Qao] <;> rfl) | (simp [*, Qan, Qao] <;> rfl), by (refine QaP ?_); exact HO_5.out, ki_, bx_, kk_⟩
end Go.Proofs.Ytabcijheemjplaa.G
