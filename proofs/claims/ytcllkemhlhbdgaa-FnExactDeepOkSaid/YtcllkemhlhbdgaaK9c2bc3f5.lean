import Derived.Test.YtcllkemhlhbdgaaProg
import Derived.Below
import Derived.Deep.Draws
import Derived.Deep.AppendLies
import Derived.Maps.AppendAt
import Derived.OwnWalk
import Derived.Laws.BytesArg
import Derived.Laws.MakeOwn
import Derived.Laws.OwnMore
import Derived.Deep.OwnRows
import Derived.Tactics
import Derived.Lib.ConvBytes
import Derived.Laws.Slices
import Derived.WalkKit
import Derived.KernelRfl
import Derived.RowKit3
import Derived.Deep.LoopGhost
import Derived.Deep.QuietTactic
import Derived.BigQuiet
import Derived.WideLaws
import Derived.Deep.DeepCutAuto
import Derived.Deep.CutBlock
import Derived.Deep.RegionHeld3
import Derived.Laws.Rows
import Derived.Lib.AppendStr
import Derived.ArgAppend
import Derived.Laws.IdiomCopy
import Derived.OrdersHeld
import Derived.Laws.BitsLemmas
import Derived.RowKit
import Derived.Test.YtcllkemhlhbdgaaK8a22f3c2
import Derived.Deep.Slices
import Derived.OpenShut
namespace Go.Proofs.Ytcllkemhlhbdgaa.G
open Go.RowKit Go.Proofs.YtcllkemhlhbdgaaW.PrintWords Go.Proofs.YtcllkemhlhbdgaaW.PrintLast Go.Proofs.YtcllkemhlhbdgaaW.PrintMore
attribute [local go_sem] max2_int min2_int max_two min_two max_three min_three max_four min_four
set_option linter.unusedVariables false
set_option linter.unusedSimpArgs false
def errW : Option Int → Value
  | none => .nilIface
  | some c => .iface 0 (.int .i64 c)
theorem errW_none : errW none = .nilIface := rfl
theorem errW_some (c : Int) : errW (some c) = .iface 0 (.int .i64 c) := rfl
theorem info3 : (Try.prog.info? 3).map (fun i => (i.zero, i.size, i.bytes)) = some (some (.int .i64 0), 1, 8) := by kernel_rfl
theorem info5 : (Try.prog.info? 5).map (fun i => (i.zero, i.size, i.bytes)) = some (some (.int .u8 0), 1, 1) := by kernel_rfl
theorem info48 : (Try.prog.info? 48).map (fun i => (i.zero, i.size, i.bytes)) = some (some (.agg #[(.int .i64 0), (.int .i64 0)]), 2, 16) := by kernel_rfl
theorem info59 : (Try.prog.info? 59).map (fun i => (i.zero, i.size, i.bytes)) = some (some (.agg #[(.int .i64 0), (.int .i64 0), (.slice none 0 0)]), 3, 40) := by kernel_rfl
theorem info90 : (Try.prog.info? 90).map (fun i => (i.zero, i.size, i.bytes)) = some (some (.agg #[(.int .i64 0), (.int .i64 0), (.slice none 0 0), (.slice none 0 0), (.int .i64 0), (.bool false)]), 6, 80) := by kernel_rfl
theorem info116 : (Try.prog.info? 116).map (fun i => (i.zero, i.size, i.bytes)) = some (some (.agg #[(.int .i64 0), (.slice none 0 0)]), 2, 32) := by kernel_rfl
theorem info123 : (Try.prog.info? 123).map (fun i => (i.zero, i.size, i.bytes)) = some (some (.agg #[(.int .i64 0), (.int .i64 0), (.int .i64 0), (.int .i64 0), (.slice none 0 0), (.slice none 0 0), (.int .i64 0), (.bool false)]), 8, 96) := by kernel_rfl
theorem info134 : (Try.prog.info? 134).map (fun i => (i.zero, i.size, i.bytes)) = some (some (.agg #[(.int .i64 0), (.int .i64 0)]), 2, 16) := by kernel_rfl
theorem info184 : (Try.prog.info? 184).map (fun i => (i.zero, i.size, i.bytes)) = some (some (.agg #[(.int .i64 0), (.int .i64 0), (.int .i64 0), (.slice none 0 0), (.slice none 0 0)]), 5, 72) := by kernel_rfl
structure S_laws_Val where
  f0 : Int
  f1 : Int
def z_laws_Val : S_laws_Val := ⟨(0 : Int), (0 : Int)⟩
def k_laws_Val : Kd S_laws_Val := Kd.iso (Kd.pair (Kd.int .i64) (Kd.int .i64)) (fun x : S_laws_Val => (x.f0, x.f1))
theorem k_laws_Val_open {w : World} {x : S_laws_Val} {cs : List Value} (h : k_laws_Val.K w x cs) : cs = [.int .i64 x.f0, .int .i64 x.f1] := by
  obtain ⟨_, _, rfl, rfl, rfl⟩ := h
  exact rfl
theorem k_laws_Val_openM {w : World} {base : Nat} {ok : Nat → Prop} {x : S_laws_Val} {cs : List Value} (h : k_laws_Val.M w base ok x cs) : cs = [.int .i64 x.f0, .int .i64 x.f1] := by
  obtain ⟨_, _, rfl, rfl, rfl⟩ := h
  exact rfl
theorem k_laws_Val_mk (w : World) (x : S_laws_Val)  : k_laws_Val.K w x [.int .i64 x.f0, .int .i64 x.f1] := ⟨[.int .i64 x.f0], [.int .i64 x.f1], rfl, rfl, rfl⟩
theorem k_laws_Val_mkM (w : World) (base : Nat) (ok : Nat → Prop) (x : S_laws_Val)  : k_laws_Val.M w base ok x [.int .i64 x.f0, .int .i64 x.f1] := ⟨[.int .i64 x.f0], [.int .i64 x.f1], rfl, rfl, rfl⟩
theorem k_laws_Val_mkF (W : World) (ok : Nat → Prop) (x : S_laws_Val) : Kd.FK k_laws_Val W ok x [.int .i64 x.f0, .int .i64 x.f1] := fun W2 _ => k_laws_Val_mk W2 x
def rd_laws_Val (xs : List S_laws_Val) (i : Int) : S_laws_Val := xs.getD i.toNat z_laws_Val
theorem at_laws_Val {w : World} {A : Option Addr} {n : Nat} {xs : List S_laws_Val} (h : Kd.C k_laws_Val w A n xs) (i : Int) (h0 : 0 ≤ i) (h1 : i < n) : ∃ ad , A = some ad ∧ w.cell? (ad.add (i.toNat * 2)) = some (.int .i64 (rd_laws_Val xs i).f0) ∧ w.cell? ⟨(ad.add (i.toNat * 2)).block, (ad.add (i.toNat * 2)).off + 1, none⟩ = some (.int .i64 (rd_laws_Val xs i).f1) := by
  obtain ⟨ad, c, e, _, hK, hc0⟩ := Kd.C_get h z_laws_Val i h0 h1
  have hc : ∀ j u, c[j]? = some u → w.cell? (ad.add (i.toNat * 2 + j)) = some u := hc0
  obtain rfl := k_laws_Val_open hK
  exact ⟨ad, e, hc 0 _ rfl, by rw [← add_field _ _ 1 (by omega)]; exact hc 1 _ rfl⟩
def rdl_s_laws_Val (xs : List (List S_laws_Val)) (i : Int) : (List S_laws_Val) := xs.getD i.toNat ([] : List S_laws_Val)
theorem atl_s_laws_Val {w : World} {A : Option Addr} {n : Nat} {xs : List (List S_laws_Val)} (h : Kd.C (Kd.slice 136 k_laws_Val) w A n xs) (i : Int) (h0 : 0 ≤ i) (h1 : i < n) : ∃ ad A0 c0, A = some ad ∧ w.cell? (ad.add i.toNat) = some (.slice A0 (rdl_s_laws_Val xs i).length c0) ∧ (rdl_s_laws_Val xs i).length ≤ c0 ∧ k_laws_Val.C w A0 (rdl_s_laws_Val xs i).length (rdl_s_laws_Val xs i) := by
  obtain ⟨ad, c, e, _, hK, hc0⟩ := Kd.C_get h ([] : List S_laws_Val) i h0 h1
  have hc : ∀ j u, c[j]? = some u → w.cell? (ad.add (i.toNat * 1 + j)) = some u := hc0
  obtain ⟨A0, c0, rfl, l0, g0⟩ := hK
  exact ⟨ad, A0, c0, e, by have hq := hc 0 _ rfl; rwa [Nat.mul_one, Nat.add_zero] at hq, l0, g0⟩
structure S_laws_Call where
  f0 : Int
  f1 : Int
  f2 : (List S_laws_Val)
  f3 : (List S_laws_Val)
  f4 : Int
  f5 : Bool
def z_laws_Call : S_laws_Call := ⟨(0 : Int), (0 : Int), ([] : List S_laws_Val), ([] : List S_laws_Val), (0 : Int), false⟩
def k_laws_Call : Kd S_laws_Call := Kd.iso (Kd.pair (Kd.int .i64) (Kd.pair (Kd.int .i64) (Kd.pair (Kd.slice 136 k_laws_Val) (Kd.pair (Kd.slice 136 k_laws_Val) (Kd.pair (Kd.int .i64) Kd.bool))))) (fun x : S_laws_Call => (x.f0, x.f1, x.f2, x.f3, x.f4, x.f5))
theorem k_laws_Call_open {w : World} {x : S_laws_Call} {cs : List Value} (h : k_laws_Call.K w x cs) : ∃ A2 c2 A3 c3, cs = [.int .i64 x.f0, .int .i64 x.f1, .slice A2 x.f2.length c2, .slice A3 x.f3.length c3, .int .i64 x.f4, .bool x.f5] ∧ x.f2.length ≤ c2 ∧ k_laws_Val.C w A2 x.f2.length x.f2 ∧ x.f3.length ≤ c3 ∧ k_laws_Val.C w A3 x.f3.length x.f3 := by
  obtain ⟨_, _, rfl, rfl, ⟨_, _, rfl, rfl, ⟨_, _, rfl, ⟨A2, c2, rfl, l2, g2⟩, ⟨_, _, rfl, ⟨A3, c3, rfl, l3, g3⟩, ⟨_, _, rfl, rfl, rfl⟩⟩⟩⟩⟩ := h
  exact ⟨A2, c2, A3, c3, rfl, l2, g2, l3, g3⟩
theorem k_laws_Call_openM {w : World} {base : Nat} {ok : Nat → Prop} {x : S_laws_Call} {cs : List Value} (h : k_laws_Call.M w base ok x cs) : ∃ v2 v3, cs = [.int .i64 x.f0, .int .i64 x.f1, v2, v3, .int .i64 x.f4, .bool x.f5] ∧ k_laws_Val.R 136 w base ok v2 x.f2 ∧ k_laws_Val.R 136 w base ok v3 x.f3 := by
  obtain ⟨_, _, rfl, rfl, ⟨_, _, rfl, rfl, ⟨_, _, rfl, ⟨v2, rfl, g2⟩, ⟨_, _, rfl, ⟨v3, rfl, g3⟩, ⟨_, _, rfl, rfl, rfl⟩⟩⟩⟩⟩ := h
  exact ⟨v2, v3, rfl, g2, g3⟩
theorem k_laws_Call_mk (w : World) (x : S_laws_Call) {A2 : Option Addr} {c2 : Nat} (l2 : x.f2.length ≤ c2) (g2 : k_laws_Val.C w A2 x.f2.length x.f2) {A3 : Option Addr} {c3 : Nat} (l3 : x.f3.length ≤ c3) (g3 : k_laws_Val.C w A3 x.f3.length x.f3) : k_laws_Call.K w x [.int .i64 x.f0, .int .i64 x.f1, .slice A2 x.f2.length c2, .slice A3 x.f3.length c3, .int .i64 x.f4, .bool x.f5] := ⟨[.int .i64 x.f0], [.int .i64 x.f1, .slice A2 x.f2.length c2, .slice A3 x.f3.length c3, .int .i64 x.f4, .bool x.f5], rfl, rfl, ⟨[.int .i64 x.f1], [.slice A2 x.f2.length c2, .slice A3 x.f3.length c3, .int .i64 x.f4, .bool x.f5], rfl, rfl, ⟨[.slice A2 x.f2.length c2], [.slice A3 x.f3.length c3, .int .i64 x.f4, .bool x.f5], rfl, ⟨A2, c2, rfl, l2, g2⟩, ⟨[.slice A3 x.f3.length c3], [.int .i64 x.f4, .bool x.f5], rfl, ⟨A3, c3, rfl, l3, g3⟩, ⟨[.int .i64 x.f4], [.bool x.f5], rfl, rfl, rfl⟩⟩⟩⟩⟩
theorem k_laws_Call_mkM (w : World) (base : Nat) (ok : Nat → Prop) (x : S_laws_Call) {v2 : Value} (g2 : k_laws_Val.R 136 w base ok v2 x.f2) {v3 : Value} (g3 : k_laws_Val.R 136 w base ok v3 x.f3) : k_laws_Call.M w base ok x [.int .i64 x.f0, .int .i64 x.f1, v2, v3, .int .i64 x.f4, .bool x.f5] := ⟨[.int .i64 x.f0], [.int .i64 x.f1, v2, v3, .int .i64 x.f4, .bool x.f5], rfl, rfl, ⟨[.int .i64 x.f1], [v2, v3, .int .i64 x.f4, .bool x.f5], rfl, rfl, ⟨[v2], [v3, .int .i64 x.f4, .bool x.f5], rfl, ⟨v2, rfl, g2⟩, ⟨[v3], [.int .i64 x.f4, .bool x.f5], rfl, ⟨v3, rfl, g3⟩, ⟨[.int .i64 x.f4], [.bool x.f5], rfl, rfl, rfl⟩⟩⟩⟩⟩
theorem k_laws_Call_openF {W : World} {ok : Nat → Prop} {x : S_laws_Call} {cs : List Value} (h : Kd.FK k_laws_Call W ok x cs) : ∃ A2 c2 A3 c3, cs = [.int .i64 x.f0, .int .i64 x.f1, .slice A2 x.f2.length c2, .slice A3 x.f3.length c3, .int .i64 x.f4, .bool x.f5] ∧ x.f2.length ≤ c2 ∧ Kd.F k_laws_Val W ok A2 x.f2.length x.f2 ∧ x.f3.length ≤ c3 ∧ Kd.F k_laws_Val W ok A3 x.f3.length x.f3 := by
  obtain ⟨A2, c2, A3, c3, rfl, l2, _, l3, _⟩ := k_laws_Call_open (Kd.FK_now h)
  exact ⟨A2, c2, A3, c3, rfl, l2, (fun W' hW => by obtain ⟨A2_, c2_, A3_, c3_, he, l2_, g2_, l3_, g3_⟩ := k_laws_Call_open (h W' hW); injection (Option.some.inj (show some (Value.slice A2 x.f2.length c2) = some (Value.slice A2_ x.f2.length c2_) from congrArg (fun l => l[2]?) he)) with ha_ _ _; rw [ha_]; exact g2_), l3, (fun W' hW => by obtain ⟨A2_, c2_, A3_, c3_, he, l2_, g2_, l3_, g3_⟩ := k_laws_Call_open (h W' hW); injection (Option.some.inj (show some (Value.slice A3 x.f3.length c3) = some (Value.slice A3_ x.f3.length c3_) from congrArg (fun l => l[3]?) he)) with ha_ _ _; rw [ha_]; exact g3_)⟩
theorem k_laws_Call_mkF (W : World) (ok : Nat → Prop) (x : S_laws_Call) {A2 : Option Addr} {c2 : Nat} (l2 : x.f2.length ≤ c2) (g2 : Kd.F k_laws_Val W ok A2 x.f2.length x.f2) {A3 : Option Addr} {c3 : Nat} (l3 : x.f3.length ≤ c3) (g3 : Kd.F k_laws_Val W ok A3 x.f3.length x.f3) : Kd.FK k_laws_Call W ok x [.int .i64 x.f0, .int .i64 x.f1, .slice A2 x.f2.length c2, .slice A3 x.f3.length c3, .int .i64 x.f4, .bool x.f5] := fun W2 hW => k_laws_Call_mk W2 x l2 (g2 W2 hW) l3 (g3 W2 hW)
def rd_laws_Call (xs : List S_laws_Call) (i : Int) : S_laws_Call := xs.getD i.toNat z_laws_Call
theorem at_laws_Call {w : World} {A : Option Addr} {n : Nat} {xs : List S_laws_Call} (h : Kd.C k_laws_Call w A n xs) (i : Int) (h0 : 0 ≤ i) (h1 : i < n) : ∃ ad A2 c2 A3 c3, A = some ad ∧ w.cell? (ad.add (i.toNat * 6)) = some (.int .i64 (rd_laws_Call xs i).f0) ∧ w.cell? ⟨(ad.add (i.toNat * 6)).block, (ad.add (i.toNat * 6)).off + 1, none⟩ = some (.int .i64 (rd_laws_Call xs i).f1) ∧ w.cell? ⟨(ad.add (i.toNat * 6)).block, (ad.add (i.toNat * 6)).off + 2, none⟩ = some (.slice A2 (rd_laws_Call xs i).f2.length c2) ∧ w.cell? ⟨(ad.add (i.toNat * 6)).block, (ad.add (i.toNat * 6)).off + 3, none⟩ = some (.slice A3 (rd_laws_Call xs i).f3.length c3) ∧ w.cell? ⟨(ad.add (i.toNat * 6)).block, (ad.add (i.toNat * 6)).off + 4, none⟩ = some (.int .i64 (rd_laws_Call xs i).f4) ∧ w.cell? ⟨(ad.add (i.toNat * 6)).block, (ad.add (i.toNat * 6)).off + 5, none⟩ = some (.bool (rd_laws_Call xs i).f5) ∧ (rd_laws_Call xs i).f2.length ≤ c2 ∧ k_laws_Val.C w A2 (rd_laws_Call xs i).f2.length (rd_laws_Call xs i).f2 ∧ (rd_laws_Call xs i).f3.length ≤ c3 ∧ k_laws_Val.C w A3 (rd_laws_Call xs i).f3.length (rd_laws_Call xs i).f3 := by
  obtain ⟨ad, c, e, _, hK, hc0⟩ := Kd.C_get h z_laws_Call i h0 h1
  have hc : ∀ j u, c[j]? = some u → w.cell? (ad.add (i.toNat * 6 + j)) = some u := hc0
  obtain ⟨A2, c2, A3, c3, rfl, l2, g2, l3, g3⟩ := k_laws_Call_open hK
  exact ⟨ad, A2, c2, A3, c3, e, hc 0 _ rfl, by rw [← add_field _ _ 1 (by omega)]; exact hc 1 _ rfl, by rw [← add_field _ _ 2 (by omega)]; exact hc 2 _ rfl, by rw [← add_field _ _ 3 (by omega)]; exact hc 3 _ rfl, by rw [← add_field _ _ 4 (by omega)]; exact hc 4 _ rfl, by rw [← add_field _ _ 5 (by omega)]; exact hc 5 _ rfl, l2, g2, l3, g3⟩
def rdl_s_laws_Call (xs : List (List S_laws_Call)) (i : Int) : (List S_laws_Call) := xs.getD i.toNat ([] : List S_laws_Call)
theorem atl_s_laws_Call {w : World} {A : Option Addr} {n : Nat} {xs : List (List S_laws_Call)} (h : Kd.C (Kd.slice 131 k_laws_Call) w A n xs) (i : Int) (h0 : 0 ≤ i) (h1 : i < n) : ∃ ad A0 c0, A = some ad ∧ w.cell? (ad.add i.toNat) = some (.slice A0 (rdl_s_laws_Call xs i).length c0) ∧ (rdl_s_laws_Call xs i).length ≤ c0 ∧ k_laws_Call.C w A0 (rdl_s_laws_Call xs i).length (rdl_s_laws_Call xs i) := by
  obtain ⟨ad, c, e, _, hK, hc0⟩ := Kd.C_get h ([] : List S_laws_Call) i h0 h1
  have hc : ∀ j u, c[j]? = some u → w.cell? (ad.add (i.toNat * 1 + j)) = some u := hc0
  obtain ⟨A0, c0, rfl, l0, g0⟩ := hK
  exact ⟨ad, A0, c0, e, by have hq := hc 0 _ rfl; rwa [Nat.mul_one, Nat.add_zero] at hq, l0, g0⟩
structure S_laws_Heap where
  f0 : (List S_laws_Call)
  f1 : Int
  f2 : Int
  f3 : (List S_laws_Val)
  f4 : Int
def z_laws_Heap : S_laws_Heap := ⟨([] : List S_laws_Call), (0 : Int), (0 : Int), ([] : List S_laws_Val), (0 : Int)⟩
def k_laws_Heap : Kd S_laws_Heap := Kd.iso (Kd.pair (Kd.slice 131 k_laws_Call) (Kd.pair (Kd.int .i64) (Kd.pair (Kd.int .i64) (Kd.pair (Kd.slice 136 k_laws_Val) (Kd.int .i64))))) (fun x : S_laws_Heap => (x.f0, x.f1, x.f2, x.f3, x.f4))
theorem k_laws_Heap_open {w : World} {x : S_laws_Heap} {cs : List Value} (h : k_laws_Heap.K w x cs) : ∃ A0 c0 A3 c3, cs = [.slice A0 x.f0.length c0, .int .i64 x.f1, .int .i64 x.f2, .slice A3 x.f3.length c3, .int .i64 x.f4] ∧ x.f0.length ≤ c0 ∧ k_laws_Call.C w A0 x.f0.length x.f0 ∧ x.f3.length ≤ c3 ∧ k_laws_Val.C w A3 x.f3.length x.f3 := by
  obtain ⟨_, _, rfl, ⟨A0, c0, rfl, l0, g0⟩, ⟨_, _, rfl, rfl, ⟨_, _, rfl, rfl, ⟨_, _, rfl, ⟨A3, c3, rfl, l3, g3⟩, rfl⟩⟩⟩⟩ := h
  exact ⟨A0, c0, A3, c3, rfl, l0, g0, l3, g3⟩
theorem k_laws_Heap_openM {w : World} {base : Nat} {ok : Nat → Prop} {x : S_laws_Heap} {cs : List Value} (h : k_laws_Heap.M w base ok x cs) : ∃ v0 v3, cs = [v0, .int .i64 x.f1, .int .i64 x.f2, v3, .int .i64 x.f4] ∧ k_laws_Call.R 131 w base ok v0 x.f0 ∧ k_laws_Val.R 136 w base ok v3 x.f3 := by
  obtain ⟨_, _, rfl, ⟨v0, rfl, g0⟩, ⟨_, _, rfl, rfl, ⟨_, _, rfl, rfl, ⟨_, _, rfl, ⟨v3, rfl, g3⟩, rfl⟩⟩⟩⟩ := h
  exact ⟨v0, v3, rfl, g0, g3⟩
theorem k_laws_Heap_mk (w : World) (x : S_laws_Heap) {A0 : Option Addr} {c0 : Nat} (l0 : x.f0.length ≤ c0) (g0 : k_laws_Call.C w A0 x.f0.length x.f0) {A3 : Option Addr} {c3 : Nat} (l3 : x.f3.length ≤ c3) (g3 : k_laws_Val.C w A3 x.f3.length x.f3) : k_laws_Heap.K w x [.slice A0 x.f0.length c0, .int .i64 x.f1, .int .i64 x.f2, .slice A3 x.f3.length c3, .int .i64 x.f4] := ⟨[.slice A0 x.f0.length c0], [.int .i64 x.f1, .int .i64 x.f2, .slice A3 x.f3.length c3, .int .i64 x.f4], rfl, ⟨A0, c0, rfl, l0, g0⟩, ⟨[.int .i64 x.f1], [.int .i64 x.f2, .slice A3 x.f3.length c3, .int .i64 x.f4], rfl, rfl, ⟨[.int .i64 x.f2], [.slice A3 x.f3.length c3, .int .i64 x.f4], rfl, rfl, ⟨[.slice A3 x.f3.length c3], [.int .i64 x.f4], rfl, ⟨A3, c3, rfl, l3, g3⟩, rfl⟩⟩⟩⟩
theorem k_laws_Heap_mkM (w : World) (base : Nat) (ok : Nat → Prop) (x : S_laws_Heap) {v0 : Value} (g0 : k_laws_Call.R 131 w base ok v0 x.f0) {v3 : Value} (g3 : k_laws_Val.R 136 w base ok v3 x.f3) : k_laws_Heap.M w base ok x [v0, .int .i64 x.f1, .int .i64 x.f2, v3, .int .i64 x.f4] := ⟨[v0], [.int .i64 x.f1, .int .i64 x.f2, v3, .int .i64 x.f4], rfl, ⟨v0, rfl, g0⟩, ⟨[.int .i64 x.f1], [.int .i64 x.f2, v3, .int .i64 x.f4], rfl, rfl, ⟨[.int .i64 x.f2], [v3, .int .i64 x.f4], rfl, rfl, ⟨[v3], [.int .i64 x.f4], rfl, ⟨v3, rfl, g3⟩, rfl⟩⟩⟩⟩
theorem k_laws_Heap_openF {W : World} {ok : Nat → Prop} {x : S_laws_Heap} {cs : List Value} (h : Kd.FK k_laws_Heap W ok x cs) : ∃ A0 c0 A3 c3, cs = [.slice A0 x.f0.length c0, .int .i64 x.f1, .int .i64 x.f2, .slice A3 x.f3.length c3, .int .i64 x.f4] ∧ x.f0.length ≤ c0 ∧ Kd.F k_laws_Call W ok A0 x.f0.length x.f0 ∧ x.f3.length ≤ c3 ∧ Kd.F k_laws_Val W ok A3 x.f3.length x.f3 := by
  obtain ⟨A0, c0, A3, c3, rfl, l0, _, l3, _⟩ := k_laws_Heap_open (Kd.FK_now h)
  exact ⟨A0, c0, A3, c3, rfl, l0, (fun W' hW => by obtain ⟨A0_, c0_, A3_, c3_, he, l0_, g0_, l3_, g3_⟩ := k_laws_Heap_open (h W' hW); injection (Option.some.inj (show some (Value.slice A0 x.f0.length c0) = some (Value.slice A0_ x.f0.length c0_) from congrArg (fun l => l[0]?) he)) with ha_ _ _; rw [ha_]; exact g0_), l3, (fun W' hW => by obtain ⟨A0_, c0_, A3_, c3_, he, l0_, g0_, l3_, g3_⟩ := k_laws_Heap_open (h W' hW); injection (Option.some.inj (show some (Value.slice A3 x.f3.length c3) = some (Value.slice A3_ x.f3.length c3_) from congrArg (fun l => l[3]?) he)) with ha_ _ _; rw [ha_]; exact g3_)⟩
theorem k_laws_Heap_mkF (W : World) (ok : Nat → Prop) (x : S_laws_Heap) {A0 : Option Addr} {c0 : Nat} (l0 : x.f0.length ≤ c0) (g0 : Kd.F k_laws_Call W ok A0 x.f0.length x.f0) {A3 : Option Addr} {c3 : Nat} (l3 : x.f3.length ≤ c3) (g3 : Kd.F k_laws_Val W ok A3 x.f3.length x.f3) : Kd.FK k_laws_Heap W ok x [.slice A0 x.f0.length c0, .int .i64 x.f1, .int .i64 x.f2, .slice A3 x.f3.length c3, .int .i64 x.f4] := fun W2 hW => k_laws_Heap_mk W2 x l0 (g0 W2 hW) l3 (g3 W2 hW)
def rd_laws_Heap (xs : List S_laws_Heap) (i : Int) : S_laws_Heap := xs.getD i.toNat z_laws_Heap
theorem at_laws_Heap {w : World} {A : Option Addr} {n : Nat} {xs : List S_laws_Heap} (h : Kd.C k_laws_Heap w A n xs) (i : Int) (h0 : 0 ≤ i) (h1 : i < n) : ∃ ad A0 c0 A3 c3, A = some ad ∧ w.cell? (ad.add (i.toNat * 5)) = some (.slice A0 (rd_laws_Heap xs i).f0.length c0) ∧ w.cell? ⟨(ad.add (i.toNat * 5)).block, (ad.add (i.toNat * 5)).off + 1, none⟩ = some (.int .i64 (rd_laws_Heap xs i).f1) ∧ w.cell? ⟨(ad.add (i.toNat * 5)).block, (ad.add (i.toNat * 5)).off + 2, none⟩ = some (.int .i64 (rd_laws_Heap xs i).f2) ∧ w.cell? ⟨(ad.add (i.toNat * 5)).block, (ad.add (i.toNat * 5)).off + 3, none⟩ = some (.slice A3 (rd_laws_Heap xs i).f3.length c3) ∧ w.cell? ⟨(ad.add (i.toNat * 5)).block, (ad.add (i.toNat * 5)).off + 4, none⟩ = some (.int .i64 (rd_laws_Heap xs i).f4) ∧ (rd_laws_Heap xs i).f0.length ≤ c0 ∧ k_laws_Call.C w A0 (rd_laws_Heap xs i).f0.length (rd_laws_Heap xs i).f0 ∧ (rd_laws_Heap xs i).f3.length ≤ c3 ∧ k_laws_Val.C w A3 (rd_laws_Heap xs i).f3.length (rd_laws_Heap xs i).f3 := by
  obtain ⟨ad, c, e, _, hK, hc0⟩ := Kd.C_get h z_laws_Heap i h0 h1
  have hc : ∀ j u, c[j]? = some u → w.cell? (ad.add (i.toNat * 5 + j)) = some u := hc0
  obtain ⟨A0, c0, A3, c3, rfl, l0, g0, l3, g3⟩ := k_laws_Heap_open hK
  exact ⟨ad, A0, c0, A3, c3, e, hc 0 _ rfl, by rw [← add_field _ _ 1 (by omega)]; exact hc 1 _ rfl, by rw [← add_field _ _ 2 (by omega)]; exact hc 2 _ rfl, by rw [← add_field _ _ 3 (by omega)]; exact hc 3 _ rfl, by rw [← add_field _ _ 4 (by omega)]; exact hc 4 _ rfl, l0, g0, l3, g3⟩
structure S_laws_Op where
  f0 : Int
  f1 : Int
def z_laws_Op : S_laws_Op := ⟨(0 : Int), (0 : Int)⟩
def k_laws_Op : Kd S_laws_Op := Kd.iso (Kd.pair (Kd.int .i64) (Kd.int .i64)) (fun x : S_laws_Op => (x.f0, x.f1))
theorem k_laws_Op_open {w : World} {x : S_laws_Op} {cs : List Value} (h : k_laws_Op.K w x cs) : cs = [.int .i64 x.f0, .int .i64 x.f1] := by
  obtain ⟨_, _, rfl, rfl, rfl⟩ := h
  exact rfl
theorem k_laws_Op_openM {w : World} {base : Nat} {ok : Nat → Prop} {x : S_laws_Op} {cs : List Value} (h : k_laws_Op.M w base ok x cs) : cs = [.int .i64 x.f0, .int .i64 x.f1] := by
  obtain ⟨_, _, rfl, rfl, rfl⟩ := h
  exact rfl
theorem k_laws_Op_mk (w : World) (x : S_laws_Op)  : k_laws_Op.K w x [.int .i64 x.f0, .int .i64 x.f1] := ⟨[.int .i64 x.f0], [.int .i64 x.f1], rfl, rfl, rfl⟩
theorem k_laws_Op_mkM (w : World) (base : Nat) (ok : Nat → Prop) (x : S_laws_Op)  : k_laws_Op.M w base ok x [.int .i64 x.f0, .int .i64 x.f1] := ⟨[.int .i64 x.f0], [.int .i64 x.f1], rfl, rfl, rfl⟩
theorem k_laws_Op_mkF (W : World) (ok : Nat → Prop) (x : S_laws_Op) : Kd.FK k_laws_Op W ok x [.int .i64 x.f0, .int .i64 x.f1] := fun W2 _ => k_laws_Op_mk W2 x
def rd_laws_Op (xs : List S_laws_Op) (i : Int) : S_laws_Op := xs.getD i.toNat z_laws_Op
theorem at_laws_Op {w : World} {A : Option Addr} {n : Nat} {xs : List S_laws_Op} (h : Kd.C k_laws_Op w A n xs) (i : Int) (h0 : 0 ≤ i) (h1 : i < n) : ∃ ad , A = some ad ∧ w.cell? (ad.add (i.toNat * 2)) = some (.int .i64 (rd_laws_Op xs i).f0) ∧ w.cell? ⟨(ad.add (i.toNat * 2)).block, (ad.add (i.toNat * 2)).off + 1, none⟩ = some (.int .i64 (rd_laws_Op xs i).f1) := by
  obtain ⟨ad, c, e, _, hK, hc0⟩ := Kd.C_get h z_laws_Op i h0 h1
  have hc : ∀ j u, c[j]? = some u → w.cell? (ad.add (i.toNat * 2 + j)) = some u := hc0
  obtain rfl := k_laws_Op_open hK
  exact ⟨ad, e, hc 0 _ rfl, by rw [← add_field _ _ 1 (by omega)]; exact hc 1 _ rfl⟩
def rdl_s_laws_Op (xs : List (List S_laws_Op)) (i : Int) : (List S_laws_Op) := xs.getD i.toNat ([] : List S_laws_Op)
theorem atl_s_laws_Op {w : World} {A : Option Addr} {n : Nat} {xs : List (List S_laws_Op)} (h : Kd.C (Kd.slice 40 k_laws_Op) w A n xs) (i : Int) (h0 : 0 ≤ i) (h1 : i < n) : ∃ ad A0 c0, A = some ad ∧ w.cell? (ad.add i.toNat) = some (.slice A0 (rdl_s_laws_Op xs i).length c0) ∧ (rdl_s_laws_Op xs i).length ≤ c0 ∧ k_laws_Op.C w A0 (rdl_s_laws_Op xs i).length (rdl_s_laws_Op xs i) := by
  obtain ⟨ad, c, e, _, hK, hc0⟩ := Kd.C_get h ([] : List S_laws_Op) i h0 h1
  have hc : ∀ j u, c[j]? = some u → w.cell? (ad.add (i.toNat * 1 + j)) = some u := hc0
  obtain ⟨A0, c0, rfl, l0, g0⟩ := hK
  exact ⟨ad, A0, c0, e, by have hq := hc 0 _ rfl; rwa [Nat.mul_one, Nat.add_zero] at hq, l0, g0⟩
structure S_laws_Method where
  f0 : Int
  f1 : Int
  f2 : (List S_laws_Op)
def z_laws_Method : S_laws_Method := ⟨(0 : Int), (0 : Int), ([] : List S_laws_Op)⟩
def k_laws_Method : Kd S_laws_Method := Kd.iso (Kd.pair (Kd.int .i64) (Kd.pair (Kd.int .i64) (Kd.slice 40 k_laws_Op))) (fun x : S_laws_Method => (x.f0, x.f1, x.f2))
theorem k_laws_Method_open {w : World} {x : S_laws_Method} {cs : List Value} (h : k_laws_Method.K w x cs) : ∃ A2 c2, cs = [.int .i64 x.f0, .int .i64 x.f1, .slice A2 x.f2.length c2] ∧ x.f2.length ≤ c2 ∧ k_laws_Op.C w A2 x.f2.length x.f2 := by
  obtain ⟨_, _, rfl, rfl, ⟨_, _, rfl, rfl, ⟨A2, c2, rfl, l2, g2⟩⟩⟩ := h
  exact ⟨A2, c2, rfl, l2, g2⟩
theorem k_laws_Method_openM {w : World} {base : Nat} {ok : Nat → Prop} {x : S_laws_Method} {cs : List Value} (h : k_laws_Method.M w base ok x cs) : ∃ v2, cs = [.int .i64 x.f0, .int .i64 x.f1, v2] ∧ k_laws_Op.R 40 w base ok v2 x.f2 := by
  obtain ⟨_, _, rfl, rfl, ⟨_, _, rfl, rfl, ⟨v2, rfl, g2⟩⟩⟩ := h
  exact ⟨v2, rfl, g2⟩
theorem k_laws_Method_mk (w : World) (x : S_laws_Method) {A2 : Option Addr} {c2 : Nat} (l2 : x.f2.length ≤ c2) (g2 : k_laws_Op.C w A2 x.f2.length x.f2) : k_laws_Method.K w x [.int .i64 x.f0, .int .i64 x.f1, .slice A2 x.f2.length c2] := ⟨[.int .i64 x.f0], [.int .i64 x.f1, .slice A2 x.f2.length c2], rfl, rfl, ⟨[.int .i64 x.f1], [.slice A2 x.f2.length c2], rfl, rfl, ⟨A2, c2, rfl, l2, g2⟩⟩⟩
theorem k_laws_Method_mkM (w : World) (base : Nat) (ok : Nat → Prop) (x : S_laws_Method) {v2 : Value} (g2 : k_laws_Op.R 40 w base ok v2 x.f2) : k_laws_Method.M w base ok x [.int .i64 x.f0, .int .i64 x.f1, v2] := ⟨[.int .i64 x.f0], [.int .i64 x.f1, v2], rfl, rfl, ⟨[.int .i64 x.f1], [v2], rfl, rfl, ⟨v2, rfl, g2⟩⟩⟩
theorem k_laws_Method_openF {W : World} {ok : Nat → Prop} {x : S_laws_Method} {cs : List Value} (h : Kd.FK k_laws_Method W ok x cs) : ∃ A2 c2, cs = [.int .i64 x.f0, .int .i64 x.f1, .slice A2 x.f2.length c2] ∧ x.f2.length ≤ c2 ∧ Kd.F k_laws_Op W ok A2 x.f2.length x.f2 := by
  obtain ⟨A2, c2, rfl, l2, _⟩ := k_laws_Method_open (Kd.FK_now h)
  exact ⟨A2, c2, rfl, l2, (fun W' hW => by obtain ⟨A2_, c2_, he, l2_, g2_⟩ := k_laws_Method_open (h W' hW); injection (Option.some.inj (show some (Value.slice A2 x.f2.length c2) = some (Value.slice A2_ x.f2.length c2_) from congrArg (fun l => l[2]?) he)) with ha_ _ _; rw [ha_]; exact g2_)⟩
theorem k_laws_Method_mkF (W : World) (ok : Nat → Prop) (x : S_laws_Method) {A2 : Option Addr} {c2 : Nat} (l2 : x.f2.length ≤ c2) (g2 : Kd.F k_laws_Op W ok A2 x.f2.length x.f2) : Kd.FK k_laws_Method W ok x [.int .i64 x.f0, .int .i64 x.f1, .slice A2 x.f2.length c2] := fun W2 hW => k_laws_Method_mk W2 x l2 (g2 W2 hW)
def rd_laws_Method (xs : List S_laws_Method) (i : Int) : S_laws_Method := xs.getD i.toNat z_laws_Method
theorem at_laws_Method {w : World} {A : Option Addr} {n : Nat} {xs : List S_laws_Method} (h : Kd.C k_laws_Method w A n xs) (i : Int) (h0 : 0 ≤ i) (h1 : i < n) : ∃ ad A2 c2, A = some ad ∧ w.cell? (ad.add (i.toNat * 3)) = some (.int .i64 (rd_laws_Method xs i).f0) ∧ w.cell? ⟨(ad.add (i.toNat * 3)).block, (ad.add (i.toNat * 3)).off + 1, none⟩ = some (.int .i64 (rd_laws_Method xs i).f1) ∧ w.cell? ⟨(ad.add (i.toNat * 3)).block, (ad.add (i.toNat * 3)).off + 2, none⟩ = some (.slice A2 (rd_laws_Method xs i).f2.length c2) ∧ (rd_laws_Method xs i).f2.length ≤ c2 ∧ k_laws_Op.C w A2 (rd_laws_Method xs i).f2.length (rd_laws_Method xs i).f2 := by
  obtain ⟨ad, c, e, _, hK, hc0⟩ := Kd.C_get h z_laws_Method i h0 h1
  have hc : ∀ j u, c[j]? = some u → w.cell? (ad.add (i.toNat * 3 + j)) = some u := hc0
  obtain ⟨A2, c2, rfl, l2, g2⟩ := k_laws_Method_open hK
  exact ⟨ad, A2, c2, e, hc 0 _ rfl, by rw [← add_field _ _ 1 (by omega)]; exact hc 1 _ rfl, by rw [← add_field _ _ 2 (by omega)]; exact hc 2 _ rfl, l2, g2⟩
def rdl_s_laws_Method (xs : List (List S_laws_Method)) (i : Int) : (List S_laws_Method) := xs.getD i.toNat ([] : List S_laws_Method)
theorem atl_s_laws_Method {w : World} {A : Option Addr} {n : Nat} {xs : List (List S_laws_Method)} (h : Kd.C (Kd.slice 142 k_laws_Method) w A n xs) (i : Int) (h0 : 0 ≤ i) (h1 : i < n) : ∃ ad A0 c0, A = some ad ∧ w.cell? (ad.add i.toNat) = some (.slice A0 (rdl_s_laws_Method xs i).length c0) ∧ (rdl_s_laws_Method xs i).length ≤ c0 ∧ k_laws_Method.C w A0 (rdl_s_laws_Method xs i).length (rdl_s_laws_Method xs i) := by
  obtain ⟨ad, c, e, _, hK, hc0⟩ := Kd.C_get h ([] : List S_laws_Method) i h0 h1
  have hc : ∀ j u, c[j]? = some u → w.cell? (ad.add (i.toNat * 1 + j)) = some u := hc0
  obtain ⟨A0, c0, rfl, l0, g0⟩ := hK
  exact ⟨ad, A0, c0, e, by have hq := hc 0 _ rfl; rwa [Nat.mul_one, Nat.add_zero] at hq, l0, g0⟩
structure S_laws_Prog where
  f0 : (List S_laws_Method)
def z_laws_Prog : S_laws_Prog := ⟨([] : List S_laws_Method)⟩
def k_laws_Prog : Kd S_laws_Prog := Kd.iso (Kd.slice 142 k_laws_Method) (fun x : S_laws_Prog => x.f0)
theorem k_laws_Prog_open {w : World} {x : S_laws_Prog} {cs : List Value} (h : k_laws_Prog.K w x cs) : ∃ A0 c0, cs = [.slice A0 x.f0.length c0] ∧ x.f0.length ≤ c0 ∧ k_laws_Method.C w A0 x.f0.length x.f0 := by
  obtain ⟨A0, c0, rfl, l0, g0⟩ := h
  exact ⟨A0, c0, rfl, l0, g0⟩
theorem k_laws_Prog_openM {w : World} {base : Nat} {ok : Nat → Prop} {x : S_laws_Prog} {cs : List Value} (h : k_laws_Prog.M w base ok x cs) : ∃ v0, cs = [v0] ∧ k_laws_Method.R 142 w base ok v0 x.f0 := by
  obtain ⟨v0, rfl, g0⟩ := h
  exact ⟨v0, rfl, g0⟩
theorem k_laws_Prog_mk (w : World) (x : S_laws_Prog) {A0 : Option Addr} {c0 : Nat} (l0 : x.f0.length ≤ c0) (g0 : k_laws_Method.C w A0 x.f0.length x.f0) : k_laws_Prog.K w x [.slice A0 x.f0.length c0] := ⟨A0, c0, rfl, l0, g0⟩
theorem k_laws_Prog_mkM (w : World) (base : Nat) (ok : Nat → Prop) (x : S_laws_Prog) {v0 : Value} (g0 : k_laws_Method.R 142 w base ok v0 x.f0) : k_laws_Prog.M w base ok x [v0] := ⟨v0, rfl, g0⟩
theorem k_laws_Prog_openF {W : World} {ok : Nat → Prop} {x : S_laws_Prog} {cs : List Value} (h : Kd.FK k_laws_Prog W ok x cs) : ∃ A0 c0, cs = [.slice A0 x.f0.length c0] ∧ x.f0.length ≤ c0 ∧ Kd.F k_laws_Method W ok A0 x.f0.length x.f0 := by
  obtain ⟨A0, c0, rfl, l0, _⟩ := k_laws_Prog_open (Kd.FK_now h)
  exact ⟨A0, c0, rfl, l0, (fun W' hW => by obtain ⟨A0_, c0_, he, l0_, g0_⟩ := k_laws_Prog_open (h W' hW); injection (Option.some.inj (show some (Value.slice A0 x.f0.length c0) = some (Value.slice A0_ x.f0.length c0_) from congrArg (fun l => l[0]?) he)) with ha_ _ _; rw [ha_]; exact g0_)⟩
theorem k_laws_Prog_mkF (W : World) (ok : Nat → Prop) (x : S_laws_Prog) {A0 : Option Addr} {c0 : Nat} (l0 : x.f0.length ≤ c0) (g0 : Kd.F k_laws_Method W ok A0 x.f0.length x.f0) : Kd.FK k_laws_Prog W ok x [.slice A0 x.f0.length c0] := fun W2 hW => k_laws_Prog_mk W2 x l0 (g0 W2 hW)
def rd_laws_Prog (xs : List S_laws_Prog) (i : Int) : S_laws_Prog := xs.getD i.toNat z_laws_Prog
theorem at_laws_Prog {w : World} {A : Option Addr} {n : Nat} {xs : List S_laws_Prog} (h : Kd.C k_laws_Prog w A n xs) (i : Int) (h0 : 0 ≤ i) (h1 : i < n) : ∃ ad A0 c0, A = some ad ∧ w.cell? (ad.add i.toNat) = some (.slice A0 (rd_laws_Prog xs i).f0.length c0) ∧ (rd_laws_Prog xs i).f0.length ≤ c0 ∧ k_laws_Method.C w A0 (rd_laws_Prog xs i).f0.length (rd_laws_Prog xs i).f0 := by
  obtain ⟨ad, c, e, _, hK, hc0⟩ := Kd.C_get h z_laws_Prog i h0 h1
  have hc : ∀ j u, c[j]? = some u → w.cell? (ad.add (i.toNat * 1 + j)) = some u := hc0
  obtain ⟨A0, c0, rfl, l0, g0⟩ := k_laws_Prog_open hK
  exact ⟨ad, A0, c0, e, by have hq := hc 0 _ rfl; rwa [Nat.mul_one, Nat.add_zero] at hq, l0, g0⟩
structure S_laws_Frame where
  f0 : Int
  f1 : Int
  f2 : Int
  f3 : (List S_laws_Val)
  f4 : (List S_laws_Val)
def z_laws_Frame : S_laws_Frame := ⟨(0 : Int), (0 : Int), (0 : Int), ([] : List S_laws_Val), ([] : List S_laws_Val)⟩
def k_laws_Frame : Kd S_laws_Frame := Kd.iso (Kd.pair (Kd.int .i64) (Kd.pair (Kd.int .i64) (Kd.pair (Kd.int .i64) (Kd.pair (Kd.slice 136 k_laws_Val) (Kd.slice 136 k_laws_Val))))) (fun x : S_laws_Frame => (x.f0, x.f1, x.f2, x.f3, x.f4))
theorem k_laws_Frame_open {w : World} {x : S_laws_Frame} {cs : List Value} (h : k_laws_Frame.K w x cs) : ∃ A3 c3 A4 c4, cs = [.int .i64 x.f0, .int .i64 x.f1, .int .i64 x.f2, .slice A3 x.f3.length c3, .slice A4 x.f4.length c4] ∧ x.f3.length ≤ c3 ∧ k_laws_Val.C w A3 x.f3.length x.f3 ∧ x.f4.length ≤ c4 ∧ k_laws_Val.C w A4 x.f4.length x.f4 := by
  obtain ⟨_, _, rfl, rfl, ⟨_, _, rfl, rfl, ⟨_, _, rfl, rfl, ⟨_, _, rfl, ⟨A3, c3, rfl, l3, g3⟩, ⟨A4, c4, rfl, l4, g4⟩⟩⟩⟩⟩ := h
  exact ⟨A3, c3, A4, c4, rfl, l3, g3, l4, g4⟩
theorem k_laws_Frame_openM {w : World} {base : Nat} {ok : Nat → Prop} {x : S_laws_Frame} {cs : List Value} (h : k_laws_Frame.M w base ok x cs) : ∃ v3 v4, cs = [.int .i64 x.f0, .int .i64 x.f1, .int .i64 x.f2, v3, v4] ∧ k_laws_Val.R 136 w base ok v3 x.f3 ∧ k_laws_Val.R 136 w base ok v4 x.f4 := by
  obtain ⟨_, _, rfl, rfl, ⟨_, _, rfl, rfl, ⟨_, _, rfl, rfl, ⟨_, _, rfl, ⟨v3, rfl, g3⟩, ⟨v4, rfl, g4⟩⟩⟩⟩⟩ := h
  exact ⟨v3, v4, rfl, g3, g4⟩
theorem k_laws_Frame_mk (w : World) (x : S_laws_Frame) {A3 : Option Addr} {c3 : Nat} (l3 : x.f3.length ≤ c3) (g3 : k_laws_Val.C w A3 x.f3.length x.f3) {A4 : Option Addr} {c4 : Nat} (l4 : x.f4.length ≤ c4) (g4 : k_laws_Val.C w A4 x.f4.length x.f4) : k_laws_Frame.K w x [.int .i64 x.f0, .int .i64 x.f1, .int .i64 x.f2, .slice A3 x.f3.length c3, .slice A4 x.f4.length c4] := ⟨[.int .i64 x.f0], [.int .i64 x.f1, .int .i64 x.f2, .slice A3 x.f3.length c3, .slice A4 x.f4.length c4], rfl, rfl, ⟨[.int .i64 x.f1], [.int .i64 x.f2, .slice A3 x.f3.length c3, .slice A4 x.f4.length c4], rfl, rfl, ⟨[.int .i64 x.f2], [.slice A3 x.f3.length c3, .slice A4 x.f4.length c4], rfl, rfl, ⟨[.slice A3 x.f3.length c3], [.slice A4 x.f4.length c4], rfl, ⟨A3, c3, rfl, l3, g3⟩, ⟨A4, c4, rfl, l4, g4⟩⟩⟩⟩⟩
theorem k_laws_Frame_mkM (w : World) (base : Nat) (ok : Nat → Prop) (x : S_laws_Frame) {v3 : Value} (g3 : k_laws_Val.R 136 w base ok v3 x.f3) {v4 : Value} (g4 : k_laws_Val.R 136 w base ok v4 x.f4) : k_laws_Frame.M w base ok x [.int .i64 x.f0, .int .i64 x.f1, .int .i64 x.f2, v3, v4] := ⟨[.int .i64 x.f0], [.int .i64 x.f1, .int .i64 x.f2, v3, v4], rfl, rfl, ⟨[.int .i64 x.f1], [.int .i64 x.f2, v3, v4], rfl, rfl, ⟨[.int .i64 x.f2], [v3, v4], rfl, rfl, ⟨[v3], [v4], rfl, ⟨v3, rfl, g3⟩, ⟨v4, rfl, g4⟩⟩⟩⟩⟩
theorem k_laws_Frame_openF {W : World} {ok : Nat → Prop} {x : S_laws_Frame} {cs : List Value} (h : Kd.FK k_laws_Frame W ok x cs) : ∃ A3 c3 A4 c4, cs = [.int .i64 x.f0, .int .i64 x.f1, .int .i64 x.f2, .slice A3 x.f3.length c3, .slice A4 x.f4.length c4] ∧ x.f3.length ≤ c3 ∧ Kd.F k_laws_Val W ok A3 x.f3.length x.f3 ∧ x.f4.length ≤ c4 ∧ Kd.F k_laws_Val W ok A4 x.f4.length x.f4 := by
  obtain ⟨A3, c3, A4, c4, rfl, l3, _, l4, _⟩ := k_laws_Frame_open (Kd.FK_now h)
  exact ⟨A3, c3, A4, c4, rfl, l3, (fun W' hW => by obtain ⟨A3_, c3_, A4_, c4_, he, l3_, g3_, l4_, g4_⟩ := k_laws_Frame_open (h W' hW); injection (Option.some.inj (show some (Value.slice A3 x.f3.length c3) = some (Value.slice A3_ x.f3.length c3_) from congrArg (fun l => l[3]?) he)) with ha_ _ _; rw [ha_]; exact g3_), l4, (fun W' hW => by obtain ⟨A3_, c3_, A4_, c4_, he, l3_, g3_, l4_, g4_⟩ := k_laws_Frame_open (h W' hW); injection (Option.some.inj (show some (Value.slice A4 x.f4.length c4) = some (Value.slice A4_ x.f4.length c4_) from congrArg (fun l => l[4]?) he)) with ha_ _ _; rw [ha_]; exact g4_)⟩
theorem k_laws_Frame_mkF (W : World) (ok : Nat → Prop) (x : S_laws_Frame) {A3 : Option Addr} {c3 : Nat} (l3 : x.f3.length ≤ c3) (g3 : Kd.F k_laws_Val W ok A3 x.f3.length x.f3) {A4 : Option Addr} {c4 : Nat} (l4 : x.f4.length ≤ c4) (g4 : Kd.F k_laws_Val W ok A4 x.f4.length x.f4) : Kd.FK k_laws_Frame W ok x [.int .i64 x.f0, .int .i64 x.f1, .int .i64 x.f2, .slice A3 x.f3.length c3, .slice A4 x.f4.length c4] := fun W2 hW => k_laws_Frame_mk W2 x l3 (g3 W2 hW) l4 (g4 W2 hW)
def rd_laws_Frame (xs : List S_laws_Frame) (i : Int) : S_laws_Frame := xs.getD i.toNat z_laws_Frame
theorem at_laws_Frame {w : World} {A : Option Addr} {n : Nat} {xs : List S_laws_Frame} (h : Kd.C k_laws_Frame w A n xs) (i : Int) (h0 : 0 ≤ i) (h1 : i < n) : ∃ ad A3 c3 A4 c4, A = some ad ∧ w.cell? (ad.add (i.toNat * 5)) = some (.int .i64 (rd_laws_Frame xs i).f0) ∧ w.cell? ⟨(ad.add (i.toNat * 5)).block, (ad.add (i.toNat * 5)).off + 1, none⟩ = some (.int .i64 (rd_laws_Frame xs i).f1) ∧ w.cell? ⟨(ad.add (i.toNat * 5)).block, (ad.add (i.toNat * 5)).off + 2, none⟩ = some (.int .i64 (rd_laws_Frame xs i).f2) ∧ w.cell? ⟨(ad.add (i.toNat * 5)).block, (ad.add (i.toNat * 5)).off + 3, none⟩ = some (.slice A3 (rd_laws_Frame xs i).f3.length c3) ∧ w.cell? ⟨(ad.add (i.toNat * 5)).block, (ad.add (i.toNat * 5)).off + 4, none⟩ = some (.slice A4 (rd_laws_Frame xs i).f4.length c4) ∧ (rd_laws_Frame xs i).f3.length ≤ c3 ∧ k_laws_Val.C w A3 (rd_laws_Frame xs i).f3.length (rd_laws_Frame xs i).f3 ∧ (rd_laws_Frame xs i).f4.length ≤ c4 ∧ k_laws_Val.C w A4 (rd_laws_Frame xs i).f4.length (rd_laws_Frame xs i).f4 := by
  obtain ⟨ad, c, e, _, hK, hc0⟩ := Kd.C_get h z_laws_Frame i h0 h1
  have hc : ∀ j u, c[j]? = some u → w.cell? (ad.add (i.toNat * 5 + j)) = some u := hc0
  obtain ⟨A3, c3, A4, c4, rfl, l3, g3, l4, g4⟩ := k_laws_Frame_open hK
  exact ⟨ad, A3, c3, A4, c4, e, hc 0 _ rfl, by rw [← add_field _ _ 1 (by omega)]; exact hc 1 _ rfl, by rw [← add_field _ _ 2 (by omega)]; exact hc 2 _ rfl, by rw [← add_field _ _ 3 (by omega)]; exact hc 3 _ rfl, by rw [← add_field _ _ 4 (by omega)]; exact hc 4 _ rfl, l3, g3, l4, g4⟩
def rdl_s_laws_Frame (xs : List (List S_laws_Frame)) (i : Int) : (List S_laws_Frame) := xs.getD i.toNat ([] : List S_laws_Frame)
theorem atl_s_laws_Frame {w : World} {A : Option Addr} {n : Nat} {xs : List (List S_laws_Frame)} (h : Kd.C (Kd.slice 182 k_laws_Frame) w A n xs) (i : Int) (h0 : 0 ≤ i) (h1 : i < n) : ∃ ad A0 c0, A = some ad ∧ w.cell? (ad.add i.toNat) = some (.slice A0 (rdl_s_laws_Frame xs i).length c0) ∧ (rdl_s_laws_Frame xs i).length ≤ c0 ∧ k_laws_Frame.C w A0 (rdl_s_laws_Frame xs i).length (rdl_s_laws_Frame xs i) := by
  obtain ⟨ad, c, e, _, hK, hc0⟩ := Kd.C_get h ([] : List S_laws_Frame) i h0 h1
  have hc : ∀ j u, c[j]? = some u → w.cell? (ad.add (i.toNat * 1 + j)) = some u := hc0
  obtain ⟨A0, c0, rfl, l0, g0⟩ := hK
  exact ⟨ad, A0, c0, e, by have hq := hc 0 _ rfl; rwa [Nat.mul_one, Nat.add_zero] at hq, l0, g0⟩
structure S_laws_Page where
  f0 : Int
  f1 : (List S_laws_Frame)
def z_laws_Page : S_laws_Page := ⟨(0 : Int), ([] : List S_laws_Frame)⟩
def k_laws_Page : Kd S_laws_Page := Kd.iso (Kd.pair (Kd.int .i64) (Kd.slice 182 k_laws_Frame)) (fun x : S_laws_Page => (x.f0, x.f1))
theorem k_laws_Page_open {w : World} {x : S_laws_Page} {cs : List Value} (h : k_laws_Page.K w x cs) : ∃ A1 c1, cs = [.int .i64 x.f0, .slice A1 x.f1.length c1] ∧ x.f1.length ≤ c1 ∧ k_laws_Frame.C w A1 x.f1.length x.f1 := by
  obtain ⟨_, _, rfl, rfl, ⟨A1, c1, rfl, l1, g1⟩⟩ := h
  exact ⟨A1, c1, rfl, l1, g1⟩
theorem k_laws_Page_openM {w : World} {base : Nat} {ok : Nat → Prop} {x : S_laws_Page} {cs : List Value} (h : k_laws_Page.M w base ok x cs) : ∃ v1, cs = [.int .i64 x.f0, v1] ∧ k_laws_Frame.R 182 w base ok v1 x.f1 := by
  obtain ⟨_, _, rfl, rfl, ⟨v1, rfl, g1⟩⟩ := h
  exact ⟨v1, rfl, g1⟩
theorem k_laws_Page_mk (w : World) (x : S_laws_Page) {A1 : Option Addr} {c1 : Nat} (l1 : x.f1.length ≤ c1) (g1 : k_laws_Frame.C w A1 x.f1.length x.f1) : k_laws_Page.K w x [.int .i64 x.f0, .slice A1 x.f1.length c1] := ⟨[.int .i64 x.f0], [.slice A1 x.f1.length c1], rfl, rfl, ⟨A1, c1, rfl, l1, g1⟩⟩
theorem k_laws_Page_mkM (w : World) (base : Nat) (ok : Nat → Prop) (x : S_laws_Page) {v1 : Value} (g1 : k_laws_Frame.R 182 w base ok v1 x.f1) : k_laws_Page.M w base ok x [.int .i64 x.f0, v1] := ⟨[.int .i64 x.f0], [v1], rfl, rfl, ⟨v1, rfl, g1⟩⟩
theorem k_laws_Page_openF {W : World} {ok : Nat → Prop} {x : S_laws_Page} {cs : List Value} (h : Kd.FK k_laws_Page W ok x cs) : ∃ A1 c1, cs = [.int .i64 x.f0, .slice A1 x.f1.length c1] ∧ x.f1.length ≤ c1 ∧ Kd.F k_laws_Frame W ok A1 x.f1.length x.f1 := by
  obtain ⟨A1, c1, rfl, l1, _⟩ := k_laws_Page_open (Kd.FK_now h)
  exact ⟨A1, c1, rfl, l1, (fun W' hW => by obtain ⟨A1_, c1_, he, l1_, g1_⟩ := k_laws_Page_open (h W' hW); injection (Option.some.inj (show some (Value.slice A1 x.f1.length c1) = some (Value.slice A1_ x.f1.length c1_) from congrArg (fun l => l[1]?) he)) with ha_ _ _; rw [ha_]; exact g1_)⟩
theorem k_laws_Page_mkF (W : World) (ok : Nat → Prop) (x : S_laws_Page) {A1 : Option Addr} {c1 : Nat} (l1 : x.f1.length ≤ c1) (g1 : Kd.F k_laws_Frame W ok A1 x.f1.length x.f1) : Kd.FK k_laws_Page W ok x [.int .i64 x.f0, .slice A1 x.f1.length c1] := fun W2 hW => k_laws_Page_mk W2 x l1 (g1 W2 hW)
def rd_laws_Page (xs : List S_laws_Page) (i : Int) : S_laws_Page := xs.getD i.toNat z_laws_Page
theorem at_laws_Page {w : World} {A : Option Addr} {n : Nat} {xs : List S_laws_Page} (h : Kd.C k_laws_Page w A n xs) (i : Int) (h0 : 0 ≤ i) (h1 : i < n) : ∃ ad A1 c1, A = some ad ∧ w.cell? (ad.add (i.toNat * 2)) = some (.int .i64 (rd_laws_Page xs i).f0) ∧ w.cell? ⟨(ad.add (i.toNat * 2)).block, (ad.add (i.toNat * 2)).off + 1, none⟩ = some (.slice A1 (rd_laws_Page xs i).f1.length c1) ∧ (rd_laws_Page xs i).f1.length ≤ c1 ∧ k_laws_Frame.C w A1 (rd_laws_Page xs i).f1.length (rd_laws_Page xs i).f1 := by
  obtain ⟨ad, c, e, _, hK, hc0⟩ := Kd.C_get h z_laws_Page i h0 h1
  have hc : ∀ j u, c[j]? = some u → w.cell? (ad.add (i.toNat * 2 + j)) = some u := hc0
  obtain ⟨A1, c1, rfl, l1, g1⟩ := k_laws_Page_open hK
  exact ⟨ad, A1, c1, e, hc 0 _ rfl, by rw [← add_field _ _ 1 (by omega)]; exact hc 1 _ rfl, l1, g1⟩
def rdl_s_laws_Page (xs : List (List S_laws_Page)) (i : Int) : (List S_laws_Page) := xs.getD i.toNat ([] : List S_laws_Page)
theorem atl_s_laws_Page {w : World} {A : Option Addr} {n : Nat} {xs : List (List S_laws_Page)} (h : Kd.C (Kd.slice 156 k_laws_Page) w A n xs) (i : Int) (h0 : 0 ≤ i) (h1 : i < n) : ∃ ad A0 c0, A = some ad ∧ w.cell? (ad.add i.toNat) = some (.slice A0 (rdl_s_laws_Page xs i).length c0) ∧ (rdl_s_laws_Page xs i).length ≤ c0 ∧ k_laws_Page.C w A0 (rdl_s_laws_Page xs i).length (rdl_s_laws_Page xs i) := by
  obtain ⟨ad, c, e, _, hK, hc0⟩ := Kd.C_get h ([] : List S_laws_Page) i h0 h1
  have hc : ∀ j u, c[j]? = some u → w.cell? (ad.add (i.toNat * 1 + j)) = some u := hc0
  obtain ⟨A0, c0, rfl, l0, g0⟩ := hK
  exact ⟨ad, A0, c0, e, by have hq := hc 0 _ rfl; rwa [Nat.mul_one, Nat.add_zero] at hq, l0, g0⟩
def rdl_s_i64 (xs : List (List Int)) (i : Int) : (List Int) := xs.getD i.toNat ([] : List Int)
theorem atl_s_i64 {w : World} {A : Option Addr} {n : Nat} {xs : List (List Int)} (h : Kd.C (Kd.slice 3 (Kd.int .i64)) w A n xs) (i : Int) (h0 : 0 ≤ i) (h1 : i < n) : ∃ ad A0 c0, A = some ad ∧ w.cell? (ad.add i.toNat) = some (.slice A0 (rdl_s_i64 xs i).length c0) ∧ (rdl_s_i64 xs i).length ≤ c0 ∧ (Kd.int .i64).C w A0 (rdl_s_i64 xs i).length (rdl_s_i64 xs i) := by
  obtain ⟨ad, c, e, _, hK, hc0⟩ := Kd.C_get h ([] : List Int) i h0 h1
  have hc : ∀ j u, c[j]? = some u → w.cell? (ad.add (i.toNat * 1 + j)) = some u := hc0
  obtain ⟨A0, c0, rfl, l0, g0⟩ := hK
  exact ⟨ad, A0, c0, e, by have hq := hc 0 _ rfl; rwa [Nat.mul_one, Nat.add_zero] at hq, l0, g0⟩
structure S_laws_Twin where
  f0 : Int
  f1 : Int
  f2 : S_laws_Call
def z_laws_Twin : S_laws_Twin := ⟨(0 : Int), (0 : Int), z_laws_Call⟩
def k_laws_Twin : Kd S_laws_Twin := Kd.iso (Kd.pair (Kd.int .i64) (Kd.pair (Kd.int .i64) k_laws_Call)) (fun x : S_laws_Twin => (x.f0, x.f1, x.f2))
theorem k_laws_Twin_open {w : World} {x : S_laws_Twin} {cs : List Value} (h : k_laws_Twin.K w x cs) : ∃ A4 c4 A5 c5, cs = [.int .i64 x.f0, .int .i64 x.f1, .int .i64 x.f2.f0, .int .i64 x.f2.f1, .slice A4 x.f2.f2.length c4, .slice A5 x.f2.f3.length c5, .int .i64 x.f2.f4, .bool x.f2.f5] ∧ x.f2.f2.length ≤ c4 ∧ k_laws_Val.C w A4 x.f2.f2.length x.f2.f2 ∧ x.f2.f3.length ≤ c5 ∧ k_laws_Val.C w A5 x.f2.f3.length x.f2.f3 := by
  obtain ⟨_, _, rfl, rfl, ⟨_, _, rfl, rfl, s2⟩⟩ := h
  obtain ⟨A4, c4, A5, c5, rfl, l4, g4, l5, g5⟩ := k_laws_Call_open s2
  exact ⟨A4, c4, A5, c5, rfl, l4, g4, l5, g5⟩
theorem k_laws_Twin_openM {w : World} {base : Nat} {ok : Nat → Prop} {x : S_laws_Twin} {cs : List Value} (h : k_laws_Twin.M w base ok x cs) : ∃ v4 v5, cs = [.int .i64 x.f0, .int .i64 x.f1, .int .i64 x.f2.f0, .int .i64 x.f2.f1, v4, v5, .int .i64 x.f2.f4, .bool x.f2.f5] ∧ k_laws_Val.R 136 w base ok v4 x.f2.f2 ∧ k_laws_Val.R 136 w base ok v5 x.f2.f3 := by
  obtain ⟨_, _, rfl, rfl, ⟨_, _, rfl, rfl, s2⟩⟩ := h
  obtain ⟨v4, v5, rfl, g4, g5⟩ := k_laws_Call_openM s2
  exact ⟨v4, v5, rfl, g4, g5⟩
theorem k_laws_Twin_mk (w : World) (x : S_laws_Twin) {A4 : Option Addr} {c4 : Nat} (l4 : x.f2.f2.length ≤ c4) (g4 : k_laws_Val.C w A4 x.f2.f2.length x.f2.f2) {A5 : Option Addr} {c5 : Nat} (l5 : x.f2.f3.length ≤ c5) (g5 : k_laws_Val.C w A5 x.f2.f3.length x.f2.f3) : k_laws_Twin.K w x [.int .i64 x.f0, .int .i64 x.f1, .int .i64 x.f2.f0, .int .i64 x.f2.f1, .slice A4 x.f2.f2.length c4, .slice A5 x.f2.f3.length c5, .int .i64 x.f2.f4, .bool x.f2.f5] := ⟨[.int .i64 x.f0], [.int .i64 x.f1, .int .i64 x.f2.f0, .int .i64 x.f2.f1, .slice A4 x.f2.f2.length c4, .slice A5 x.f2.f3.length c5, .int .i64 x.f2.f4, .bool x.f2.f5], rfl, rfl, ⟨[.int .i64 x.f1], [.int .i64 x.f2.f0, .int .i64 x.f2.f1, .slice A4 x.f2.f2.length c4, .slice A5 x.f2.f3.length c5, .int .i64 x.f2.f4, .bool x.f2.f5], rfl, rfl, (k_laws_Call_mk w x.f2 l4 g4 l5 g5)⟩⟩
theorem k_laws_Twin_mkM (w : World) (base : Nat) (ok : Nat → Prop) (x : S_laws_Twin) {v4 : Value} (g4 : k_laws_Val.R 136 w base ok v4 x.f2.f2) {v5 : Value} (g5 : k_laws_Val.R 136 w base ok v5 x.f2.f3) : k_laws_Twin.M w base ok x [.int .i64 x.f0, .int .i64 x.f1, .int .i64 x.f2.f0, .int .i64 x.f2.f1, v4, v5, .int .i64 x.f2.f4, .bool x.f2.f5] := ⟨[.int .i64 x.f0], [.int .i64 x.f1, .int .i64 x.f2.f0, .int .i64 x.f2.f1, v4, v5, .int .i64 x.f2.f4, .bool x.f2.f5], rfl, rfl, ⟨[.int .i64 x.f1], [.int .i64 x.f2.f0, .int .i64 x.f2.f1, v4, v5, .int .i64 x.f2.f4, .bool x.f2.f5], rfl, rfl, (k_laws_Call_mkM w base ok x.f2 g4 g5)⟩⟩
theorem k_laws_Twin_openF {W : World} {ok : Nat → Prop} {x : S_laws_Twin} {cs : List Value} (h : Kd.FK k_laws_Twin W ok x cs) : ∃ A4 c4 A5 c5, cs = [.int .i64 x.f0, .int .i64 x.f1, .int .i64 x.f2.f0, .int .i64 x.f2.f1, .slice A4 x.f2.f2.length c4, .slice A5 x.f2.f3.length c5, .int .i64 x.f2.f4, .bool x.f2.f5] ∧ x.f2.f2.length ≤ c4 ∧ Kd.F k_laws_Val W ok A4 x.f2.f2.length x.f2.f2 ∧ x.f2.f3.length ≤ c5 ∧ Kd.F k_laws_Val W ok A5 x.f2.f3.length x.f2.f3 := by
  obtain ⟨A4, c4, A5, c5, rfl, l4, _, l5, _⟩ := k_laws_Twin_open (Kd.FK_now h)
  exact ⟨A4, c4, A5, c5, rfl, l4, (fun W' hW => by obtain ⟨A4_, c4_, A5_, c5_, he, l4_, g4_, l5_, g5_⟩ := k_laws_Twin_open (h W' hW); injection (Option.some.inj (show some (Value.slice A4 x.f2.f2.length c4) = some (Value.slice A4_ x.f2.f2.length c4_) from congrArg (fun l => l[4]?) he)) with ha_ _ _; rw [ha_]; exact g4_), l5, (fun W' hW => by obtain ⟨A4_, c4_, A5_, c5_, he, l4_, g4_, l5_, g5_⟩ := k_laws_Twin_open (h W' hW); injection (Option.some.inj (show some (Value.slice A5 x.f2.f3.length c5) = some (Value.slice A5_ x.f2.f3.length c5_) from congrArg (fun l => l[5]?) he)) with ha_ _ _; rw [ha_]; exact g5_)⟩
theorem k_laws_Twin_mkF (W : World) (ok : Nat → Prop) (x : S_laws_Twin) {A4 : Option Addr} {c4 : Nat} (l4 : x.f2.f2.length ≤ c4) (g4 : Kd.F k_laws_Val W ok A4 x.f2.f2.length x.f2.f2) {A5 : Option Addr} {c5 : Nat} (l5 : x.f2.f3.length ≤ c5) (g5 : Kd.F k_laws_Val W ok A5 x.f2.f3.length x.f2.f3) : Kd.FK k_laws_Twin W ok x [.int .i64 x.f0, .int .i64 x.f1, .int .i64 x.f2.f0, .int .i64 x.f2.f1, .slice A4 x.f2.f2.length c4, .slice A5 x.f2.f3.length c5, .int .i64 x.f2.f4, .bool x.f2.f5] := fun W2 hW => k_laws_Twin_mk W2 x l4 (g4 W2 hW) l5 (g5 W2 hW)
def rd_laws_Twin (xs : List S_laws_Twin) (i : Int) : S_laws_Twin := xs.getD i.toNat z_laws_Twin
theorem at_laws_Twin {w : World} {A : Option Addr} {n : Nat} {xs : List S_laws_Twin} (h : Kd.C k_laws_Twin w A n xs) (i : Int) (h0 : 0 ≤ i) (h1 : i < n) : ∃ ad A4 c4 A5 c5, A = some ad ∧ w.cell? (ad.add (i.toNat * 8)) = some (.int .i64 (rd_laws_Twin xs i).f0) ∧ w.cell? ⟨(ad.add (i.toNat * 8)).block, (ad.add (i.toNat * 8)).off + 1, none⟩ = some (.int .i64 (rd_laws_Twin xs i).f1) ∧ w.cell? ⟨(ad.add (i.toNat * 8)).block, (ad.add (i.toNat * 8)).off + 2, none⟩ = some (.int .i64 (rd_laws_Twin xs i).f2.f0) ∧ w.cell? ⟨(ad.add (i.toNat * 8)).block, (ad.add (i.toNat * 8)).off + 3, none⟩ = some (.int .i64 (rd_laws_Twin xs i).f2.f1) ∧ w.cell? ⟨(ad.add (i.toNat * 8)).block, (ad.add (i.toNat * 8)).off + 4, none⟩ = some (.slice A4 (rd_laws_Twin xs i).f2.f2.length c4) ∧ w.cell? ⟨(ad.add (i.toNat * 8)).block, (ad.add (i.toNat * 8)).off + 5, none⟩ = some (.slice A5 (rd_laws_Twin xs i).f2.f3.length c5) ∧ w.cell? ⟨(ad.add (i.toNat * 8)).block, (ad.add (i.toNat * 8)).off + 6, none⟩ = some (.int .i64 (rd_laws_Twin xs i).f2.f4) ∧ w.cell? ⟨(ad.add (i.toNat * 8)).block, (ad.add (i.toNat * 8)).off + 7, none⟩ = some (.bool (rd_laws_Twin xs i).f2.f5) ∧ (rd_laws_Twin xs i).f2.f2.length ≤ c4 ∧ k_laws_Val.C w A4 (rd_laws_Twin xs i).f2.f2.length (rd_laws_Twin xs i).f2.f2 ∧ (rd_laws_Twin xs i).f2.f3.length ≤ c5 ∧ k_laws_Val.C w A5 (rd_laws_Twin xs i).f2.f3.length (rd_laws_Twin xs i).f2.f3 := by
  obtain ⟨ad, c, e, _, hK, hc0⟩ := Kd.C_get h z_laws_Twin i h0 h1
  have hc : ∀ j u, c[j]? = some u → w.cell? (ad.add (i.toNat * 8 + j)) = some u := hc0
  obtain ⟨A4, c4, A5, c5, rfl, l4, g4, l5, g5⟩ := k_laws_Twin_open hK
  exact ⟨ad, A4, c4, A5, c5, e, hc 0 _ rfl, by rw [← add_field _ _ 1 (by omega)]; exact hc 1 _ rfl, by rw [← add_field _ _ 2 (by omega)]; exact hc 2 _ rfl, by rw [← add_field _ _ 3 (by omega)]; exact hc 3 _ rfl, by rw [← add_field _ _ 4 (by omega)]; exact hc 4 _ rfl, by rw [← add_field _ _ 5 (by omega)]; exact hc 5 _ rfl, by rw [← add_field _ _ 6 (by omega)]; exact hc 6 _ rfl, by rw [← add_field _ _ 7 (by omega)]; exact hc 7 _ rfl, l4, g4, l5, g5⟩
def rdl_s_laws_Twin (xs : List (List S_laws_Twin)) (i : Int) : (List S_laws_Twin) := xs.getD i.toNat ([] : List S_laws_Twin)
theorem atl_s_laws_Twin {w : World} {A : Option Addr} {n : Nat} {xs : List (List S_laws_Twin)} (h : Kd.C (Kd.slice 159 k_laws_Twin) w A n xs) (i : Int) (h0 : 0 ≤ i) (h1 : i < n) : ∃ ad A0 c0, A = some ad ∧ w.cell? (ad.add i.toNat) = some (.slice A0 (rdl_s_laws_Twin xs i).length c0) ∧ (rdl_s_laws_Twin xs i).length ≤ c0 ∧ k_laws_Twin.C w A0 (rdl_s_laws_Twin xs i).length (rdl_s_laws_Twin xs i) := by
  obtain ⟨ad, c, e, _, hK, hc0⟩ := Kd.C_get h ([] : List S_laws_Twin) i h0 h1
  have hc : ∀ j u, c[j]? = some u → w.cell? (ad.add (i.toNat * 1 + j)) = some u := hc0
  obtain ⟨A0, c0, rfl, l0, g0⟩ := hK
  exact ⟨ad, A0, c0, e, by have hq := hc 0 _ rfl; rwa [Nat.mul_one, Nat.add_zero] at hq, l0, g0⟩
structure S_laws_Mach where
  f0 : Int
  f1 : (List S_laws_Page)
  f2 : (List Int)
  f3 : Int
  f4 : (List S_laws_Twin)
  f5 : Int
  f6 : (List S_laws_Val)
  f7 : Int
def z_laws_Mach : S_laws_Mach := ⟨(0 : Int), ([] : List S_laws_Page), ([] : List Int), (0 : Int), ([] : List S_laws_Twin), (0 : Int), ([] : List S_laws_Val), (0 : Int)⟩
def k_laws_Mach : Kd S_laws_Mach := Kd.iso (Kd.pair (Kd.int .i64) (Kd.pair (Kd.slice 156 k_laws_Page) (Kd.pair (Kd.slice 3 (Kd.int .i64)) (Kd.pair (Kd.int .i64) (Kd.pair (Kd.slice 159 k_laws_Twin) (Kd.pair (Kd.int .i64) (Kd.pair (Kd.slice 136 k_laws_Val) (Kd.int .i64)))))))) (fun x : S_laws_Mach => (x.f0, x.f1, x.f2, x.f3, x.f4, x.f5, x.f6, x.f7))
theorem k_laws_Mach_open {w : World} {x : S_laws_Mach} {cs : List Value} (h : k_laws_Mach.K w x cs) : ∃ A1 c1 A2 c2 A4 c4 A6 c6, cs = [.int .i64 x.f0, .slice A1 x.f1.length c1, .slice A2 x.f2.length c2, .int .i64 x.f3, .slice A4 x.f4.length c4, .int .i64 x.f5, .slice A6 x.f6.length c6, .int .i64 x.f7] ∧ x.f1.length ≤ c1 ∧ k_laws_Page.C w A1 x.f1.length x.f1 ∧ x.f2.length ≤ c2 ∧ (Kd.int .i64).C w A2 x.f2.length x.f2 ∧ x.f4.length ≤ c4 ∧ k_laws_Twin.C w A4 x.f4.length x.f4 ∧ x.f6.length ≤ c6 ∧ k_laws_Val.C w A6 x.f6.length x.f6 := by
  obtain ⟨_, _, rfl, rfl, ⟨_, _, rfl, ⟨A1, c1, rfl, l1, g1⟩, ⟨_, _, rfl, ⟨A2, c2, rfl, l2, g2⟩, ⟨_, _, rfl, rfl, ⟨_, _, rfl, ⟨A4, c4, rfl, l4, g4⟩, ⟨_, _, rfl, rfl, ⟨_, _, rfl, ⟨A6, c6, rfl, l6, g6⟩, rfl⟩⟩⟩⟩⟩⟩⟩ := h
  exact ⟨A1, c1, A2, c2, A4, c4, A6, c6, rfl, l1, g1, l2, g2, l4, g4, l6, g6⟩
theorem k_laws_Mach_openM {w : World} {base : Nat} {ok : Nat → Prop} {x : S_laws_Mach} {cs : List Value} (h : k_laws_Mach.M w base ok x cs) : ∃ v1 v2 v4 v6, cs = [.int .i64 x.f0, v1, v2, .int .i64 x.f3, v4, .int .i64 x.f5, v6, .int .i64 x.f7] ∧ k_laws_Page.R 156 w base ok v1 x.f1 ∧ (Kd.int .i64).R 3 w base ok v2 x.f2 ∧ k_laws_Twin.R 159 w base ok v4 x.f4 ∧ k_laws_Val.R 136 w base ok v6 x.f6 := by
  obtain ⟨_, _, rfl, rfl, ⟨_, _, rfl, ⟨v1, rfl, g1⟩, ⟨_, _, rfl, ⟨v2, rfl, g2⟩, ⟨_, _, rfl, rfl, ⟨_, _, rfl, ⟨v4, rfl, g4⟩, ⟨_, _, rfl, rfl, ⟨_, _, rfl, ⟨v6, rfl, g6⟩, rfl⟩⟩⟩⟩⟩⟩⟩ := h
  exact ⟨v1, v2, v4, v6, rfl, g1, g2, g4, g6⟩
theorem k_laws_Mach_mk (w : World) (x : S_laws_Mach) {A1 : Option Addr} {c1 : Nat} (l1 : x.f1.length ≤ c1) (g1 : k_laws_Page.C w A1 x.f1.length x.f1) {A2 : Option Addr} {c2 : Nat} (l2 : x.f2.length ≤ c2) (g2 : (Kd.int .i64).C w A2 x.f2.length x.f2) {A4 : Option Addr} {c4 : Nat} (l4 : x.f4.length ≤ c4) (g4 : k_laws_Twin.C w A4 x.f4.length x.f4) {A6 : Option Addr} {c6 : Nat} (l6 : x.f6.length ≤ c6) (g6 : k_laws_Val.C w A6 x.f6.length x.f6) : k_laws_Mach.K w x [.int .i64 x.f0, .slice A1 x.f1.length c1, .slice A2 x.f2.length c2, .int .i64 x.f3, .slice A4 x.f4.length c4, .int .i64 x.f5, .slice A6 x.f6.length c6, .int .i64 x.f7] := ⟨[.int .i64 x.f0], [.slice A1 x.f1.length c1, .slice A2 x.f2.length c2, .int .i64 x.f3, .slice A4 x.f4.length c4, .int .i64 x.f5, .slice A6 x.f6.length c6, .int .i64 x.f7], rfl, rfl, ⟨[.slice A1 x.f1.length c1], [.slice A2 x.f2.length c2, .int .i64 x.f3, .slice A4 x.f4.length c4, .int .i64 x.f5, .slice A6 x.f6.length c6, .int .i64 x.f7], rfl, ⟨A1, c1, rfl, l1, g1⟩, ⟨[.slice A2 x.f2.length c2], [.int .i64 x.f3, .slice A4 x.f4.length c4, .int .i64 x.f5, .slice A6 x.f6.length c6, .int .i64 x.f7], rfl, ⟨A2, c2, rfl, l2, g2⟩, ⟨[.int .i64 x.f3], [.slice A4 x.f4.length c4, .int .i64 x.f5, .slice A6 x.f6.length c6, .int .i64 x.f7], rfl, rfl, ⟨[.slice A4 x.f4.length c4], [.int .i64 x.f5, .slice A6 x.f6.length c6, .int .i64 x.f7], rfl, ⟨A4, c4, rfl, l4, g4⟩, ⟨[.int .i64 x.f5], [.slice A6 x.f6.length c6, .int .i64 x.f7], rfl, rfl, ⟨[.slice A6 x.f6.length c6], [.int .i64 x.f7], rfl, ⟨A6, c6, rfl, l6, g6⟩, rfl⟩⟩⟩⟩⟩⟩⟩
theorem k_laws_Mach_mkM (w : World) (base : Nat) (ok : Nat → Prop) (x : S_laws_Mach) {v1 : Value} (g1 : k_laws_Page.R 156 w base ok v1 x.f1) {v2 : Value} (g2 : (Kd.int .i64).R 3 w base ok v2 x.f2) {v4 : Value} (g4 : k_laws_Twin.R 159 w base ok v4 x.f4) {v6 : Value} (g6 : k_laws_Val.R 136 w base ok v6 x.f6) : k_laws_Mach.M w base ok x [.int .i64 x.f0, v1, v2, .int .i64 x.f3, v4, .int .i64 x.f5, v6, .int .i64 x.f7] := ⟨[.int .i64 x.f0], [v1, v2, .int .i64 x.f3, v4, .int .i64 x.f5, v6, .int .i64 x.f7], rfl, rfl, ⟨[v1], [v2, .int .i64 x.f3, v4, .int .i64 x.f5, v6, .int .i64 x.f7], rfl, ⟨v1, rfl, g1⟩, ⟨[v2], [.int .i64 x.f3, v4, .int .i64 x.f5, v6, .int .i64 x.f7], rfl, ⟨v2, rfl, g2⟩, ⟨[.int .i64 x.f3], [v4, .int .i64 x.f5, v6, .int .i64 x.f7], rfl, rfl, ⟨[v4], [.int .i64 x.f5, v6, .int .i64 x.f7], rfl, ⟨v4, rfl, g4⟩, ⟨[.int .i64 x.f5], [v6, .int .i64 x.f7], rfl, rfl, ⟨[v6], [.int .i64 x.f7], rfl, ⟨v6, rfl, g6⟩, rfl⟩⟩⟩⟩⟩⟩⟩
theorem k_laws_Mach_openF {W : World} {ok : Nat → Prop} {x : S_laws_Mach} {cs : List Value} (h : Kd.FK k_laws_Mach W ok x cs) : ∃ A1 c1 A2 c2 A4 c4 A6 c6, cs = [.int .i64 x.f0, .slice A1 x.f1.length c1, .slice A2 x.f2.length c2, .int .i64 x.f3, .slice A4 x.f4.length c4, .int .i64 x.f5, .slice A6 x.f6.length c6, .int .i64 x.f7] ∧ x.f1.length ≤ c1 ∧ Kd.F k_laws_Page W ok A1 x.f1.length x.f1 ∧ x.f2.length ≤ c2 ∧ Kd.F (Kd.int .i64) W ok A2 x.f2.length x.f2 ∧ x.f4.length ≤ c4 ∧ Kd.F k_laws_Twin W ok A4 x.f4.length x.f4 ∧ x.f6.length ≤ c6 ∧ Kd.F k_laws_Val W ok A6 x.f6.length x.f6 := by
  obtain ⟨A1, c1, A2, c2, A4, c4, A6, c6, rfl, l1, _, l2, _, l4, _, l6, _⟩ := k_laws_Mach_open (Kd.FK_now h)
  exact ⟨A1, c1, A2, c2, A4, c4, A6, c6, rfl, l1, (fun W' hW => by obtain ⟨A1_, c1_, A2_, c2_, A4_, c4_, A6_, c6_, he, l1_, g1_, l2_, g2_, l4_, g4_, l6_, g6_⟩ := k_laws_Mach_open (h W' hW); injection (Option.some.inj (show some (Value.slice A1 x.f1.length c1) = some (Value.slice A1_ x.f1.length c1_) from congrArg (fun l => l[1]?) he)) with ha_ _ _; rw [ha_]; exact g1_), l2, (fun W' hW => by obtain ⟨A1_, c1_, A2_, c2_, A4_, c4_, A6_, c6_, he, l1_, g1_, l2_, g2_, l4_, g4_, l6_, g6_⟩ := k_laws_Mach_open (h W' hW); injection (Option.some.inj (show some (Value.slice A2 x.f2.length c2) = some (Value.slice A2_ x.f2.length c2_) from congrArg (fun l => l[2]?) he)) with ha_ _ _; rw [ha_]; exact g2_), l4, (fun W' hW => by obtain ⟨A1_, c1_, A2_, c2_, A4_, c4_, A6_, c6_, he, l1_, g1_, l2_, g2_, l4_, g4_, l6_, g6_⟩ := k_laws_Mach_open (h W' hW); injection (Option.some.inj (show some (Value.slice A4 x.f4.length c4) = some (Value.slice A4_ x.f4.length c4_) from congrArg (fun l => l[4]?) he)) with ha_ _ _; rw [ha_]; exact g4_), l6, (fun W' hW => by obtain ⟨A1_, c1_, A2_, c2_, A4_, c4_, A6_, c6_, he, l1_, g1_, l2_, g2_, l4_, g4_, l6_, g6_⟩ := k_laws_Mach_open (h W' hW); injection (Option.some.inj (show some (Value.slice A6 x.f6.length c6) = some (Value.slice A6_ x.f6.length c6_) from congrArg (fun l => l[6]?) he)) with ha_ _ _; rw [ha_]; exact g6_)⟩
theorem k_laws_Mach_mkF (W : World) (ok : Nat → Prop) (x : S_laws_Mach) {A1 : Option Addr} {c1 : Nat} (l1 : x.f1.length ≤ c1) (g1 : Kd.F k_laws_Page W ok A1 x.f1.length x.f1) {A2 : Option Addr} {c2 : Nat} (l2 : x.f2.length ≤ c2) (g2 : Kd.F (Kd.int .i64) W ok A2 x.f2.length x.f2) {A4 : Option Addr} {c4 : Nat} (l4 : x.f4.length ≤ c4) (g4 : Kd.F k_laws_Twin W ok A4 x.f4.length x.f4) {A6 : Option Addr} {c6 : Nat} (l6 : x.f6.length ≤ c6) (g6 : Kd.F k_laws_Val W ok A6 x.f6.length x.f6) : Kd.FK k_laws_Mach W ok x [.int .i64 x.f0, .slice A1 x.f1.length c1, .slice A2 x.f2.length c2, .int .i64 x.f3, .slice A4 x.f4.length c4, .int .i64 x.f5, .slice A6 x.f6.length c6, .int .i64 x.f7] := fun W2 hW => k_laws_Mach_mk W2 x l1 (g1 W2 hW) l2 (g2 W2 hW) l4 (g4 W2 hW) l6 (g6 W2 hW)
def rd_laws_Mach (xs : List S_laws_Mach) (i : Int) : S_laws_Mach := xs.getD i.toNat z_laws_Mach
theorem at_laws_Mach {w : World} {A : Option Addr} {n : Nat} {xs : List S_laws_Mach} (h : Kd.C k_laws_Mach w A n xs) (i : Int) (h0 : 0 ≤ i) (h1 : i < n) : ∃ ad A1 c1 A2 c2 A4 c4 A6 c6, A = some ad ∧ w.cell? (ad.add (i.toNat * 8)) = some (.int .i64 (rd_laws_Mach xs i).f0) ∧ w.cell? ⟨(ad.add (i.toNat * 8)).block, (ad.add (i.toNat * 8)).off + 1, none⟩ = some (.slice A1 (rd_laws_Mach xs i).f1.length c1) ∧ w.cell? ⟨(ad.add (i.toNat * 8)).block, (ad.add (i.toNat * 8)).off + 2, none⟩ = some (.slice A2 (rd_laws_Mach xs i).f2.length c2) ∧ w.cell? ⟨(ad.add (i.toNat * 8)).block, (ad.add (i.toNat * 8)).off + 3, none⟩ = some (.int .i64 (rd_laws_Mach xs i).f3) ∧ w.cell? ⟨(ad.add (i.toNat * 8)).block, (ad.add (i.toNat * 8)).off + 4, none⟩ = some (.slice A4 (rd_laws_Mach xs i).f4.length c4) ∧ w.cell? ⟨(ad.add (i.toNat * 8)).block, (ad.add (i.toNat * 8)).off + 5, none⟩ = some (.int .i64 (rd_laws_Mach xs i).f5) ∧ w.cell? ⟨(ad.add (i.toNat * 8)).block, (ad.add (i.toNat * 8)).off + 6, none⟩ = some (.slice A6 (rd_laws_Mach xs i).f6.length c6) ∧ w.cell? ⟨(ad.add (i.toNat * 8)).block, (ad.add (i.toNat * 8)).off + 7, none⟩ = some (.int .i64 (rd_laws_Mach xs i).f7) ∧ (rd_laws_Mach xs i).f1.length ≤ c1 ∧ k_laws_Page.C w A1 (rd_laws_Mach xs i).f1.length (rd_laws_Mach xs i).f1 ∧ (rd_laws_Mach xs i).f2.length ≤ c2 ∧ (Kd.int .i64).C w A2 (rd_laws_Mach xs i).f2.length (rd_laws_Mach xs i).f2 ∧ (rd_laws_Mach xs i).f4.length ≤ c4 ∧ k_laws_Twin.C w A4 (rd_laws_Mach xs i).f4.length (rd_laws_Mach xs i).f4 ∧ (rd_laws_Mach xs i).f6.length ≤ c6 ∧ k_laws_Val.C w A6 (rd_laws_Mach xs i).f6.length (rd_laws_Mach xs i).f6 := by
  obtain ⟨ad, c, e, _, hK, hc0⟩ := Kd.C_get h z_laws_Mach i h0 h1
  have hc : ∀ j u, c[j]? = some u → w.cell? (ad.add (i.toNat * 8 + j)) = some u := hc0
  obtain ⟨A1, c1, A2, c2, A4, c4, A6, c6, rfl, l1, g1, l2, g2, l4, g4, l6, g6⟩ := k_laws_Mach_open hK
  exact ⟨ad, A1, c1, A2, c2, A4, c4, A6, c6, e, hc 0 _ rfl, by rw [← add_field _ _ 1 (by omega)]; exact hc 1 _ rfl, by rw [← add_field _ _ 2 (by omega)]; exact hc 2 _ rfl, by rw [← add_field _ _ 3 (by omega)]; exact hc 3 _ rfl, by rw [← add_field _ _ 4 (by omega)]; exact hc 4 _ rfl, by rw [← add_field _ _ 5 (by omega)]; exact hc 5 _ rfl, by rw [← add_field _ _ 6 (by omega)]; exact hc 6 _ rfl, by rw [← add_field _ _ 7 (by omega)]; exact hc 7 _ rfl, l1, g1, l2, g2, l4, g4, l6, g6⟩
structure S_impl_Val where
  f0 : Int
  f1 : Int
def z_impl_Val : S_impl_Val := ⟨(0 : Int), (0 : Int)⟩
def k_impl_Val : Kd S_impl_Val := Kd.iso (Kd.pair (Kd.int .i64) (Kd.int .i64)) (fun x : S_impl_Val => (x.f0, x.f1))
theorem k_impl_Val_open {w : World} {x : S_impl_Val} {cs : List Value} (h : k_impl_Val.K w x cs) : cs = [.int .i64 x.f0, .int .i64 x.f1] := by
  obtain ⟨_, _, rfl, rfl, rfl⟩ := h
  exact rfl
theorem k_impl_Val_openM {w : World} {base : Nat} {ok : Nat → Prop} {x : S_impl_Val} {cs : List Value} (h : k_impl_Val.M w base ok x cs) : cs = [.int .i64 x.f0, .int .i64 x.f1] := by
  obtain ⟨_, _, rfl, rfl, rfl⟩ := h
  exact rfl
theorem k_impl_Val_mk (w : World) (x : S_impl_Val)  : k_impl_Val.K w x [.int .i64 x.f0, .int .i64 x.f1] := ⟨[.int .i64 x.f0], [.int .i64 x.f1], rfl, rfl, rfl⟩
theorem k_impl_Val_mkM (w : World) (base : Nat) (ok : Nat → Prop) (x : S_impl_Val)  : k_impl_Val.M w base ok x [.int .i64 x.f0, .int .i64 x.f1] := ⟨[.int .i64 x.f0], [.int .i64 x.f1], rfl, rfl, rfl⟩
theorem k_impl_Val_mkF (W : World) (ok : Nat → Prop) (x : S_impl_Val) : Kd.FK k_impl_Val W ok x [.int .i64 x.f0, .int .i64 x.f1] := fun W2 _ => k_impl_Val_mk W2 x
def rd_impl_Val (xs : List S_impl_Val) (i : Int) : S_impl_Val := xs.getD i.toNat z_impl_Val
theorem at_impl_Val {w : World} {A : Option Addr} {n : Nat} {xs : List S_impl_Val} (h : Kd.C k_impl_Val w A n xs) (i : Int) (h0 : 0 ≤ i) (h1 : i < n) : ∃ ad , A = some ad ∧ w.cell? (ad.add (i.toNat * 2)) = some (.int .i64 (rd_impl_Val xs i).f0) ∧ w.cell? ⟨(ad.add (i.toNat * 2)).block, (ad.add (i.toNat * 2)).off + 1, none⟩ = some (.int .i64 (rd_impl_Val xs i).f1) := by
  obtain ⟨ad, c, e, _, hK, hc0⟩ := Kd.C_get h z_impl_Val i h0 h1
  have hc : ∀ j u, c[j]? = some u → w.cell? (ad.add (i.toNat * 2 + j)) = some u := hc0
  obtain rfl := k_impl_Val_open hK
  exact ⟨ad, e, hc 0 _ rfl, by rw [← add_field _ _ 1 (by omega)]; exact hc 1 _ rfl⟩
def rdl_s_impl_Val (xs : List (List S_impl_Val)) (i : Int) : (List S_impl_Val) := xs.getD i.toNat ([] : List S_impl_Val)
theorem atl_s_impl_Val {w : World} {A : Option Addr} {n : Nat} {xs : List (List S_impl_Val)} (h : Kd.C (Kd.slice 134 k_impl_Val) w A n xs) (i : Int) (h0 : 0 ≤ i) (h1 : i < n) : ∃ ad A0 c0, A = some ad ∧ w.cell? (ad.add i.toNat) = some (.slice A0 (rdl_s_impl_Val xs i).length c0) ∧ (rdl_s_impl_Val xs i).length ≤ c0 ∧ k_impl_Val.C w A0 (rdl_s_impl_Val xs i).length (rdl_s_impl_Val xs i) := by
  obtain ⟨ad, c, e, _, hK, hc0⟩ := Kd.C_get h ([] : List S_impl_Val) i h0 h1
  have hc : ∀ j u, c[j]? = some u → w.cell? (ad.add (i.toNat * 1 + j)) = some u := hc0
  obtain ⟨A0, c0, rfl, l0, g0⟩ := hK
  exact ⟨ad, A0, c0, e, by have hq := hc 0 _ rfl; rwa [Nat.mul_one, Nat.add_zero] at hq, l0, g0⟩
structure S_impl_Call where
  f0 : Int
  f1 : Int
  f2 : (List S_impl_Val)
  f3 : (List S_impl_Val)
  f4 : Int
  f5 : Bool
def z_impl_Call : S_impl_Call := ⟨(0 : Int), (0 : Int), ([] : List S_impl_Val), ([] : List S_impl_Val), (0 : Int), false⟩
def k_impl_Call : Kd S_impl_Call := Kd.iso (Kd.pair (Kd.int .i64) (Kd.pair (Kd.int .i64) (Kd.pair (Kd.slice 134 k_impl_Val) (Kd.pair (Kd.slice 134 k_impl_Val) (Kd.pair (Kd.int .i64) Kd.bool))))) (fun x : S_impl_Call => (x.f0, x.f1, x.f2, x.f3, x.f4, x.f5))
theorem k_impl_Call_open {w : World} {x : S_impl_Call} {cs : List Value} (h : k_impl_Call.K w x cs) : ∃ A2 c2 A3 c3, cs = [.int .i64 x.f0, .int .i64 x.f1, .slice A2 x.f2.length c2, .slice A3 x.f3.length c3, .int .i64 x.f4, .bool x.f5] ∧ x.f2.length ≤ c2 ∧ k_impl_Val.C w A2 x.f2.length x.f2 ∧ x.f3.length ≤ c3 ∧ k_impl_Val.C w A3 x.f3.length x.f3 := by
  obtain ⟨_, _, rfl, rfl, ⟨_, _, rfl, rfl, ⟨_, _, rfl, ⟨A2, c2, rfl, l2, g2⟩, ⟨_, _, rfl, ⟨A3, c3, rfl, l3, g3⟩, ⟨_, _, rfl, rfl, rfl⟩⟩⟩⟩⟩ := h
  exact ⟨A2, c2, A3, c3, rfl, l2, g2, l3, g3⟩
theorem k_impl_Call_openM {w : World} {base : Nat} {ok : Nat → Prop} {x : S_impl_Call} {cs : List Value} (h : k_impl_Call.M w base ok x cs) : ∃ v2 v3, cs = [.int .i64 x.f0, .int .i64 x.f1, v2, v3, .int .i64 x.f4, .bool x.f5] ∧ k_impl_Val.R 134 w base ok v2 x.f2 ∧ k_impl_Val.R 134 w base ok v3 x.f3 := by
  obtain ⟨_, _, rfl, rfl, ⟨_, _, rfl, rfl, ⟨_, _, rfl, ⟨v2, rfl, g2⟩, ⟨_, _, rfl, ⟨v3, rfl, g3⟩, ⟨_, _, rfl, rfl, rfl⟩⟩⟩⟩⟩ := h
  exact ⟨v2, v3, rfl, g2, g3⟩
theorem k_impl_Call_mk (w : World) (x : S_impl_Call) {A2 : Option Addr} {c2 : Nat} (l2 : x.f2.length ≤ c2) (g2 : k_impl_Val.C w A2 x.f2.length x.f2) {A3 : Option Addr} {c3 : Nat} (l3 : x.f3.length ≤ c3) (g3 : k_impl_Val.C w A3 x.f3.length x.f3) : k_impl_Call.K w x [.int .i64 x.f0, .int .i64 x.f1, .slice A2 x.f2.length c2, .slice A3 x.f3.length c3, .int .i64 x.f4, .bool x.f5] := ⟨[.int .i64 x.f0], [.int .i64 x.f1, .slice A2 x.f2.length c2, .slice A3 x.f3.length c3, .int .i64 x.f4, .bool x.f5], rfl, rfl, ⟨[.int .i64 x.f1], [.slice A2 x.f2.length c2, .slice A3 x.f3.length c3, .int .i64 x.f4, .bool x.f5], rfl, rfl, ⟨[.slice A2 x.f2.length c2], [.slice A3 x.f3.length c3, .int .i64 x.f4, .bool x.f5], rfl, ⟨A2, c2, rfl, l2, g2⟩, ⟨[.slice A3 x.f3.length c3], [.int .i64 x.f4, .bool x.f5], rfl, ⟨A3, c3, rfl, l3, g3⟩, ⟨[.int .i64 x.f4], [.bool x.f5], rfl, rfl, rfl⟩⟩⟩⟩⟩
theorem k_impl_Call_mkM (w : World) (base : Nat) (ok : Nat → Prop) (x : S_impl_Call) {v2 : Value} (g2 : k_impl_Val.R 134 w base ok v2 x.f2) {v3 : Value} (g3 : k_impl_Val.R 134 w base ok v3 x.f3) : k_impl_Call.M w base ok x [.int .i64 x.f0, .int .i64 x.f1, v2, v3, .int .i64 x.f4, .bool x.f5] := ⟨[.int .i64 x.f0], [.int .i64 x.f1, v2, v3, .int .i64 x.f4, .bool x.f5], rfl, rfl, ⟨[.int .i64 x.f1], [v2, v3, .int .i64 x.f4, .bool x.f5], rfl, rfl, ⟨[v2], [v3, .int .i64 x.f4, .bool x.f5], rfl, ⟨v2, rfl, g2⟩, ⟨[v3], [.int .i64 x.f4, .bool x.f5], rfl, ⟨v3, rfl, g3⟩, ⟨[.int .i64 x.f4], [.bool x.f5], rfl, rfl, rfl⟩⟩⟩⟩⟩
theorem k_impl_Call_openF {W : World} {ok : Nat → Prop} {x : S_impl_Call} {cs : List Value} (h : Kd.FK k_impl_Call W ok x cs) : ∃ A2 c2 A3 c3, cs = [.int .i64 x.f0, .int .i64 x.f1, .slice A2 x.f2.length c2, .slice A3 x.f3.length c3, .int .i64 x.f4, .bool x.f5] ∧ x.f2.length ≤ c2 ∧ Kd.F k_impl_Val W ok A2 x.f2.length x.f2 ∧ x.f3.length ≤ c3 ∧ Kd.F k_impl_Val W ok A3 x.f3.length x.f3 := by
  obtain ⟨A2, c2, A3, c3, rfl, l2, _, l3, _⟩ := k_impl_Call_open (Kd.FK_now h)
  exact ⟨A2, c2, A3, c3, rfl, l2, (fun W' hW => by obtain ⟨A2_, c2_, A3_, c3_, he, l2_, g2_, l3_, g3_⟩ := k_impl_Call_open (h W' hW); injection (Option.some.inj (show some (Value.slice A2 x.f2.length c2) = some (Value.slice A2_ x.f2.length c2_) from congrArg (fun l => l[2]?) he)) with ha_ _ _; rw [ha_]; exact g2_), l3, (fun W' hW => by obtain ⟨A2_, c2_, A3_, c3_, he, l2_, g2_, l3_, g3_⟩ := k_impl_Call_open (h W' hW); injection (Option.some.inj (show some (Value.slice A3 x.f3.length c3) = some (Value.slice A3_ x.f3.length c3_) from congrArg (fun l => l[3]?) he)) with ha_ _ _; rw [ha_]; exact g3_)⟩
theorem k_impl_Call_mkF (W : World) (ok : Nat → Prop) (x : S_impl_Call) {A2 : Option Addr} {c2 : Nat} (l2 : x.f2.length ≤ c2) (g2 : Kd.F k_impl_Val W ok A2 x.f2.length x.f2) {A3 : Option Addr} {c3 : Nat} (l3 : x.f3.length ≤ c3) (g3 : Kd.F k_impl_Val W ok A3 x.f3.length x.f3) : Kd.FK k_impl_Call W ok x [.int .i64 x.f0, .int .i64 x.f1, .slice A2 x.f2.length c2, .slice A3 x.f3.length c3, .int .i64 x.f4, .bool x.f5] := fun W2 hW => k_impl_Call_mk W2 x l2 (g2 W2 hW) l3 (g3 W2 hW)
def rd_impl_Call (xs : List S_impl_Call) (i : Int) : S_impl_Call := xs.getD i.toNat z_impl_Call
theorem at_impl_Call {w : World} {A : Option Addr} {n : Nat} {xs : List S_impl_Call} (h : Kd.C k_impl_Call w A n xs) (i : Int) (h0 : 0 ≤ i) (h1 : i < n) : ∃ ad A2 c2 A3 c3, A = some ad ∧ w.cell? (ad.add (i.toNat * 6)) = some (.int .i64 (rd_impl_Call xs i).f0) ∧ w.cell? ⟨(ad.add (i.toNat * 6)).block, (ad.add (i.toNat * 6)).off + 1, none⟩ = some (.int .i64 (rd_impl_Call xs i).f1) ∧ w.cell? ⟨(ad.add (i.toNat * 6)).block, (ad.add (i.toNat * 6)).off + 2, none⟩ = some (.slice A2 (rd_impl_Call xs i).f2.length c2) ∧ w.cell? ⟨(ad.add (i.toNat * 6)).block, (ad.add (i.toNat * 6)).off + 3, none⟩ = some (.slice A3 (rd_impl_Call xs i).f3.length c3) ∧ w.cell? ⟨(ad.add (i.toNat * 6)).block, (ad.add (i.toNat * 6)).off + 4, none⟩ = some (.int .i64 (rd_impl_Call xs i).f4) ∧ w.cell? ⟨(ad.add (i.toNat * 6)).block, (ad.add (i.toNat * 6)).off + 5, none⟩ = some (.bool (rd_impl_Call xs i).f5) ∧ (rd_impl_Call xs i).f2.length ≤ c2 ∧ k_impl_Val.C w A2 (rd_impl_Call xs i).f2.length (rd_impl_Call xs i).f2 ∧ (rd_impl_Call xs i).f3.length ≤ c3 ∧ k_impl_Val.C w A3 (rd_impl_Call xs i).f3.length (rd_impl_Call xs i).f3 := by
  obtain ⟨ad, c, e, _, hK, hc0⟩ := Kd.C_get h z_impl_Call i h0 h1
  have hc : ∀ j u, c[j]? = some u → w.cell? (ad.add (i.toNat * 6 + j)) = some u := hc0
  obtain ⟨A2, c2, A3, c3, rfl, l2, g2, l3, g3⟩ := k_impl_Call_open hK
  exact ⟨ad, A2, c2, A3, c3, e, hc 0 _ rfl, by rw [← add_field _ _ 1 (by omega)]; exact hc 1 _ rfl, by rw [← add_field _ _ 2 (by omega)]; exact hc 2 _ rfl, by rw [← add_field _ _ 3 (by omega)]; exact hc 3 _ rfl, by rw [← add_field _ _ 4 (by omega)]; exact hc 4 _ rfl, by rw [← add_field _ _ 5 (by omega)]; exact hc 5 _ rfl, l2, g2, l3, g3⟩
structure S_impl_Op where
  f0 : Int
  f1 : Int
def z_impl_Op : S_impl_Op := ⟨(0 : Int), (0 : Int)⟩
def k_impl_Op : Kd S_impl_Op := Kd.iso (Kd.pair (Kd.int .i64) (Kd.int .i64)) (fun x : S_impl_Op => (x.f0, x.f1))
theorem k_impl_Op_open {w : World} {x : S_impl_Op} {cs : List Value} (h : k_impl_Op.K w x cs) : cs = [.int .i64 x.f0, .int .i64 x.f1] := by
  obtain ⟨_, _, rfl, rfl, rfl⟩ := h
  exact rfl
theorem k_impl_Op_openM {w : World} {base : Nat} {ok : Nat → Prop} {x : S_impl_Op} {cs : List Value} (h : k_impl_Op.M w base ok x cs) : cs = [.int .i64 x.f0, .int .i64 x.f1] := by
  obtain ⟨_, _, rfl, rfl, rfl⟩ := h
  exact rfl
theorem k_impl_Op_mk (w : World) (x : S_impl_Op)  : k_impl_Op.K w x [.int .i64 x.f0, .int .i64 x.f1] := ⟨[.int .i64 x.f0], [.int .i64 x.f1], rfl, rfl, rfl⟩
theorem k_impl_Op_mkM (w : World) (base : Nat) (ok : Nat → Prop) (x : S_impl_Op)  : k_impl_Op.M w base ok x [.int .i64 x.f0, .int .i64 x.f1] := ⟨[.int .i64 x.f0], [.int .i64 x.f1], rfl, rfl, rfl⟩
theorem k_impl_Op_mkF (W : World) (ok : Nat → Prop) (x : S_impl_Op) : Kd.FK k_impl_Op W ok x [.int .i64 x.f0, .int .i64 x.f1] := fun W2 _ => k_impl_Op_mk W2 x
def rd_impl_Op (xs : List S_impl_Op) (i : Int) : S_impl_Op := xs.getD i.toNat z_impl_Op
theorem at_impl_Op {w : World} {A : Option Addr} {n : Nat} {xs : List S_impl_Op} (h : Kd.C k_impl_Op w A n xs) (i : Int) (h0 : 0 ≤ i) (h1 : i < n) : ∃ ad , A = some ad ∧ w.cell? (ad.add (i.toNat * 2)) = some (.int .i64 (rd_impl_Op xs i).f0) ∧ w.cell? ⟨(ad.add (i.toNat * 2)).block, (ad.add (i.toNat * 2)).off + 1, none⟩ = some (.int .i64 (rd_impl_Op xs i).f1) := by
  obtain ⟨ad, c, e, _, hK, hc0⟩ := Kd.C_get h z_impl_Op i h0 h1
  have hc : ∀ j u, c[j]? = some u → w.cell? (ad.add (i.toNat * 2 + j)) = some u := hc0
  obtain rfl := k_impl_Op_open hK
  exact ⟨ad, e, hc 0 _ rfl, by rw [← add_field _ _ 1 (by omega)]; exact hc 1 _ rfl⟩
def rdl_s_impl_Op (xs : List (List S_impl_Op)) (i : Int) : (List S_impl_Op) := xs.getD i.toNat ([] : List S_impl_Op)
theorem atl_s_impl_Op {w : World} {A : Option Addr} {n : Nat} {xs : List (List S_impl_Op)} (h : Kd.C (Kd.slice 48 k_impl_Op) w A n xs) (i : Int) (h0 : 0 ≤ i) (h1 : i < n) : ∃ ad A0 c0, A = some ad ∧ w.cell? (ad.add i.toNat) = some (.slice A0 (rdl_s_impl_Op xs i).length c0) ∧ (rdl_s_impl_Op xs i).length ≤ c0 ∧ k_impl_Op.C w A0 (rdl_s_impl_Op xs i).length (rdl_s_impl_Op xs i) := by
  obtain ⟨ad, c, e, _, hK, hc0⟩ := Kd.C_get h ([] : List S_impl_Op) i h0 h1
  have hc : ∀ j u, c[j]? = some u → w.cell? (ad.add (i.toNat * 1 + j)) = some u := hc0
  obtain ⟨A0, c0, rfl, l0, g0⟩ := hK
  exact ⟨ad, A0, c0, e, by have hq := hc 0 _ rfl; rwa [Nat.mul_one, Nat.add_zero] at hq, l0, g0⟩
structure S_impl_Method where
  f0 : Int
  f1 : Int
  f2 : (List S_impl_Op)
def z_impl_Method : S_impl_Method := ⟨(0 : Int), (0 : Int), ([] : List S_impl_Op)⟩
def k_impl_Method : Kd S_impl_Method := Kd.iso (Kd.pair (Kd.int .i64) (Kd.pair (Kd.int .i64) (Kd.slice 48 k_impl_Op))) (fun x : S_impl_Method => (x.f0, x.f1, x.f2))
theorem k_impl_Method_open {w : World} {x : S_impl_Method} {cs : List Value} (h : k_impl_Method.K w x cs) : ∃ A2 c2, cs = [.int .i64 x.f0, .int .i64 x.f1, .slice A2 x.f2.length c2] ∧ x.f2.length ≤ c2 ∧ k_impl_Op.C w A2 x.f2.length x.f2 := by
  obtain ⟨_, _, rfl, rfl, ⟨_, _, rfl, rfl, ⟨A2, c2, rfl, l2, g2⟩⟩⟩ := h
  exact ⟨A2, c2, rfl, l2, g2⟩
theorem k_impl_Method_openM {w : World} {base : Nat} {ok : Nat → Prop} {x : S_impl_Method} {cs : List Value} (h : k_impl_Method.M w base ok x cs) : ∃ v2, cs = [.int .i64 x.f0, .int .i64 x.f1, v2] ∧ k_impl_Op.R 48 w base ok v2 x.f2 := by
  obtain ⟨_, _, rfl, rfl, ⟨_, _, rfl, rfl, ⟨v2, rfl, g2⟩⟩⟩ := h
  exact ⟨v2, rfl, g2⟩
theorem k_impl_Method_mk (w : World) (x : S_impl_Method) {A2 : Option Addr} {c2 : Nat} (l2 : x.f2.length ≤ c2) (g2 : k_impl_Op.C w A2 x.f2.length x.f2) : k_impl_Method.K w x [.int .i64 x.f0, .int .i64 x.f1, .slice A2 x.f2.length c2] := ⟨[.int .i64 x.f0], [.int .i64 x.f1, .slice A2 x.f2.length c2], rfl, rfl, ⟨[.int .i64 x.f1], [.slice A2 x.f2.length c2], rfl, rfl, ⟨A2, c2, rfl, l2, g2⟩⟩⟩
theorem k_impl_Method_mkM (w : World) (base : Nat) (ok : Nat → Prop) (x : S_impl_Method) {v2 : Value} (g2 : k_impl_Op.R 48 w base ok v2 x.f2) : k_impl_Method.M w base ok x [.int .i64 x.f0, .int .i64 x.f1, v2] := ⟨[.int .i64 x.f0], [.int .i64 x.f1, v2], rfl, rfl, ⟨[.int .i64 x.f1], [v2], rfl, rfl, ⟨v2, rfl, g2⟩⟩⟩
theorem k_impl_Method_openF {W : World} {ok : Nat → Prop} {x : S_impl_Method} {cs : List Value} (h : Kd.FK k_impl_Method W ok x cs) : ∃ A2 c2, cs = [.int .i64 x.f0, .int .i64 x.f1, .slice A2 x.f2.length c2] ∧ x.f2.length ≤ c2 ∧ Kd.F k_impl_Op W ok A2 x.f2.length x.f2 := by
  obtain ⟨A2, c2, rfl, l2, _⟩ := k_impl_Method_open (Kd.FK_now h)
  exact ⟨A2, c2, rfl, l2, (fun W' hW => by obtain ⟨A2_, c2_, he, l2_, g2_⟩ := k_impl_Method_open (h W' hW); injection (Option.some.inj (show some (Value.slice A2 x.f2.length c2) = some (Value.slice A2_ x.f2.length c2_) from congrArg (fun l => l[2]?) he)) with ha_ _ _; rw [ha_]; exact g2_)⟩
theorem k_impl_Method_mkF (W : World) (ok : Nat → Prop) (x : S_impl_Method) {A2 : Option Addr} {c2 : Nat} (l2 : x.f2.length ≤ c2) (g2 : Kd.F k_impl_Op W ok A2 x.f2.length x.f2) : Kd.FK k_impl_Method W ok x [.int .i64 x.f0, .int .i64 x.f1, .slice A2 x.f2.length c2] := fun W2 hW => k_impl_Method_mk W2 x l2 (g2 W2 hW)
def rd_impl_Method (xs : List S_impl_Method) (i : Int) : S_impl_Method := xs.getD i.toNat z_impl_Method
theorem at_impl_Method {w : World} {A : Option Addr} {n : Nat} {xs : List S_impl_Method} (h : Kd.C k_impl_Method w A n xs) (i : Int) (h0 : 0 ≤ i) (h1 : i < n) : ∃ ad A2 c2, A = some ad ∧ w.cell? (ad.add (i.toNat * 3)) = some (.int .i64 (rd_impl_Method xs i).f0) ∧ w.cell? ⟨(ad.add (i.toNat * 3)).block, (ad.add (i.toNat * 3)).off + 1, none⟩ = some (.int .i64 (rd_impl_Method xs i).f1) ∧ w.cell? ⟨(ad.add (i.toNat * 3)).block, (ad.add (i.toNat * 3)).off + 2, none⟩ = some (.slice A2 (rd_impl_Method xs i).f2.length c2) ∧ (rd_impl_Method xs i).f2.length ≤ c2 ∧ k_impl_Op.C w A2 (rd_impl_Method xs i).f2.length (rd_impl_Method xs i).f2 := by
  obtain ⟨ad, c, e, _, hK, hc0⟩ := Kd.C_get h z_impl_Method i h0 h1
  have hc : ∀ j u, c[j]? = some u → w.cell? (ad.add (i.toNat * 3 + j)) = some u := hc0
  obtain ⟨A2, c2, rfl, l2, g2⟩ := k_impl_Method_open hK
  exact ⟨ad, A2, c2, e, hc 0 _ rfl, by rw [← add_field _ _ 1 (by omega)]; exact hc 1 _ rfl, by rw [← add_field _ _ 2 (by omega)]; exact hc 2 _ rfl, l2, g2⟩
def rdl_s_impl_Method (xs : List (List S_impl_Method)) (i : Int) : (List S_impl_Method) := xs.getD i.toNat ([] : List S_impl_Method)
theorem atl_s_impl_Method {w : World} {A : Option Addr} {n : Nat} {xs : List (List S_impl_Method)} (h : Kd.C (Kd.slice 59 k_impl_Method) w A n xs) (i : Int) (h0 : 0 ≤ i) (h1 : i < n) : ∃ ad A0 c0, A = some ad ∧ w.cell? (ad.add i.toNat) = some (.slice A0 (rdl_s_impl_Method xs i).length c0) ∧ (rdl_s_impl_Method xs i).length ≤ c0 ∧ k_impl_Method.C w A0 (rdl_s_impl_Method xs i).length (rdl_s_impl_Method xs i) := by
  obtain ⟨ad, c, e, _, hK, hc0⟩ := Kd.C_get h ([] : List S_impl_Method) i h0 h1
  have hc : ∀ j u, c[j]? = some u → w.cell? (ad.add (i.toNat * 1 + j)) = some u := hc0
  obtain ⟨A0, c0, rfl, l0, g0⟩ := hK
  exact ⟨ad, A0, c0, e, by have hq := hc 0 _ rfl; rwa [Nat.mul_one, Nat.add_zero] at hq, l0, g0⟩
structure S_impl_Prog where
  f0 : (List S_impl_Method)
def z_impl_Prog : S_impl_Prog := ⟨([] : List S_impl_Method)⟩
def k_impl_Prog : Kd S_impl_Prog := Kd.iso (Kd.slice 59 k_impl_Method) (fun x : S_impl_Prog => x.f0)
theorem k_impl_Prog_open {w : World} {x : S_impl_Prog} {cs : List Value} (h : k_impl_Prog.K w x cs) : ∃ A0 c0, cs = [.slice A0 x.f0.length c0] ∧ x.f0.length ≤ c0 ∧ k_impl_Method.C w A0 x.f0.length x.f0 := by
  obtain ⟨A0, c0, rfl, l0, g0⟩ := h
  exact ⟨A0, c0, rfl, l0, g0⟩
theorem k_impl_Prog_openM {w : World} {base : Nat} {ok : Nat → Prop} {x : S_impl_Prog} {cs : List Value} (h : k_impl_Prog.M w base ok x cs) : ∃ v0, cs = [v0] ∧ k_impl_Method.R 59 w base ok v0 x.f0 := by
  obtain ⟨v0, rfl, g0⟩ := h
  exact ⟨v0, rfl, g0⟩
theorem k_impl_Prog_mk (w : World) (x : S_impl_Prog) {A0 : Option Addr} {c0 : Nat} (l0 : x.f0.length ≤ c0) (g0 : k_impl_Method.C w A0 x.f0.length x.f0) : k_impl_Prog.K w x [.slice A0 x.f0.length c0] := ⟨A0, c0, rfl, l0, g0⟩
theorem k_impl_Prog_mkM (w : World) (base : Nat) (ok : Nat → Prop) (x : S_impl_Prog) {v0 : Value} (g0 : k_impl_Method.R 59 w base ok v0 x.f0) : k_impl_Prog.M w base ok x [v0] := ⟨v0, rfl, g0⟩
theorem k_impl_Prog_openF {W : World} {ok : Nat → Prop} {x : S_impl_Prog} {cs : List Value} (h : Kd.FK k_impl_Prog W ok x cs) : ∃ A0 c0, cs = [.slice A0 x.f0.length c0] ∧ x.f0.length ≤ c0 ∧ Kd.F k_impl_Method W ok A0 x.f0.length x.f0 := by
  obtain ⟨A0, c0, rfl, l0, _⟩ := k_impl_Prog_open (Kd.FK_now h)
  exact ⟨A0, c0, rfl, l0, (fun W' hW => by obtain ⟨A0_, c0_, he, l0_, g0_⟩ := k_impl_Prog_open (h W' hW); injection (Option.some.inj (show some (Value.slice A0 x.f0.length c0) = some (Value.slice A0_ x.f0.length c0_) from congrArg (fun l => l[0]?) he)) with ha_ _ _; rw [ha_]; exact g0_)⟩
theorem k_impl_Prog_mkF (W : World) (ok : Nat → Prop) (x : S_impl_Prog) {A0 : Option Addr} {c0 : Nat} (l0 : x.f0.length ≤ c0) (g0 : Kd.F k_impl_Method W ok A0 x.f0.length x.f0) : Kd.FK k_impl_Prog W ok x [.slice A0 x.f0.length c0] := fun W2 hW => k_impl_Prog_mk W2 x l0 (g0 W2 hW)
def rd_impl_Prog (xs : List S_impl_Prog) (i : Int) : S_impl_Prog := xs.getD i.toNat z_impl_Prog
theorem at_impl_Prog {w : World} {A : Option Addr} {n : Nat} {xs : List S_impl_Prog} (h : Kd.C k_impl_Prog w A n xs) (i : Int) (h0 : 0 ≤ i) (h1 : i < n) : ∃ ad A0 c0, A = some ad ∧ w.cell? (ad.add i.toNat) = some (.slice A0 (rd_impl_Prog xs i).f0.length c0) ∧ (rd_impl_Prog xs i).f0.length ≤ c0 ∧ k_impl_Method.C w A0 (rd_impl_Prog xs i).f0.length (rd_impl_Prog xs i).f0 := by
  obtain ⟨ad, c, e, _, hK, hc0⟩ := Kd.C_get h z_impl_Prog i h0 h1
  have hc : ∀ j u, c[j]? = some u → w.cell? (ad.add (i.toNat * 1 + j)) = some u := hc0
  obtain ⟨A0, c0, rfl, l0, g0⟩ := k_impl_Prog_open hK
  exact ⟨ad, A0, c0, e, by have hq := hc 0 _ rfl; rwa [Nat.mul_one, Nat.add_zero] at hq, l0, g0⟩
structure S_impl_Frame where
  f0 : Int
  f1 : Int
  f2 : Int
  f3 : (List S_impl_Val)
  f4 : (List S_impl_Val)
def z_impl_Frame : S_impl_Frame := ⟨(0 : Int), (0 : Int), (0 : Int), ([] : List S_impl_Val), ([] : List S_impl_Val)⟩
def k_impl_Frame : Kd S_impl_Frame := Kd.iso (Kd.pair (Kd.int .i64) (Kd.pair (Kd.int .i64) (Kd.pair (Kd.int .i64) (Kd.pair (Kd.slice 134 k_impl_Val) (Kd.slice 134 k_impl_Val))))) (fun x : S_impl_Frame => (x.f0, x.f1, x.f2, x.f3, x.f4))
theorem k_impl_Frame_open {w : World} {x : S_impl_Frame} {cs : List Value} (h : k_impl_Frame.K w x cs) : ∃ A3 c3 A4 c4, cs = [.int .i64 x.f0, .int .i64 x.f1, .int .i64 x.f2, .slice A3 x.f3.length c3, .slice A4 x.f4.length c4] ∧ x.f3.length ≤ c3 ∧ k_impl_Val.C w A3 x.f3.length x.f3 ∧ x.f4.length ≤ c4 ∧ k_impl_Val.C w A4 x.f4.length x.f4 := by
  obtain ⟨_, _, rfl, rfl, ⟨_, _, rfl, rfl, ⟨_, _, rfl, rfl, ⟨_, _, rfl, ⟨A3, c3, rfl, l3, g3⟩, ⟨A4, c4, rfl, l4, g4⟩⟩⟩⟩⟩ := h
  exact ⟨A3, c3, A4, c4, rfl, l3, g3, l4, g4⟩
theorem k_impl_Frame_openM {w : World} {base : Nat} {ok : Nat → Prop} {x : S_impl_Frame} {cs : List Value} (h : k_impl_Frame.M w base ok x cs) : ∃ v3 v4, cs = [.int .i64 x.f0, .int .i64 x.f1, .int .i64 x.f2, v3, v4] ∧ k_impl_Val.R 134 w base ok v3 x.f3 ∧ k_impl_Val.R 134 w base ok v4 x.f4 := by
  obtain ⟨_, _, rfl, rfl, ⟨_, _, rfl, rfl, ⟨_, _, rfl, rfl, ⟨_, _, rfl, ⟨v3, rfl, g3⟩, ⟨v4, rfl, g4⟩⟩⟩⟩⟩ := h
  exact ⟨v3, v4, rfl, g3, g4⟩
theorem k_impl_Frame_mk (w : World) (x : S_impl_Frame) {A3 : Option Addr} {c3 : Nat} (l3 : x.f3.length ≤ c3) (g3 : k_impl_Val.C w A3 x.f3.length x.f3) {A4 : Option Addr} {c4 : Nat} (l4 : x.f4.length ≤ c4) (g4 : k_impl_Val.C w A4 x.f4.length x.f4) : k_impl_Frame.K w x [.int .i64 x.f0, .int .i64 x.f1, .int .i64 x.f2, .slice A3 x.f3.length c3, .slice A4 x.f4.length c4] := ⟨[.int .i64 x.f0], [.int .i64 x.f1, .int .i64 x.f2, .slice A3 x.f3.length c3, .slice A4 x.f4.length c4], rfl, rfl, ⟨[.int .i64 x.f1], [.int .i64 x.f2, .slice A3 x.f3.length c3, .slice A4 x.f4.length c4], rfl, rfl, ⟨[.int .i64 x.f2], [.slice A3 x.f3.length c3, .slice A4 x.f4.length c4], rfl, rfl, ⟨[.slice A3 x.f3.length c3], [.slice A4 x.f4.length c4], rfl, ⟨A3, c3, rfl, l3, g3⟩, ⟨A4, c4, rfl, l4, g4⟩⟩⟩⟩⟩
theorem k_impl_Frame_mkM (w : World) (base : Nat) (ok : Nat → Prop) (x : S_impl_Frame) {v3 : Value} (g3 : k_impl_Val.R 134 w base ok v3 x.f3) {v4 : Value} (g4 : k_impl_Val.R 134 w base ok v4 x.f4) : k_impl_Frame.M w base ok x [.int .i64 x.f0, .int .i64 x.f1, .int .i64 x.f2, v3, v4] := ⟨[.int .i64 x.f0], [.int .i64 x.f1, .int .i64 x.f2, v3, v4], rfl, rfl, ⟨[.int .i64 x.f1], [.int .i64 x.f2, v3, v4], rfl, rfl, ⟨[.int .i64 x.f2], [v3, v4], rfl, rfl, ⟨[v3], [v4], rfl, ⟨v3, rfl, g3⟩, ⟨v4, rfl, g4⟩⟩⟩⟩⟩
theorem k_impl_Frame_openF {W : World} {ok : Nat → Prop} {x : S_impl_Frame} {cs : List Value} (h : Kd.FK k_impl_Frame W ok x cs) : ∃ A3 c3 A4 c4, cs = [.int .i64 x.f0, .int .i64 x.f1, .int .i64 x.f2, .slice A3 x.f3.length c3, .slice A4 x.f4.length c4] ∧ x.f3.length ≤ c3 ∧ Kd.F k_impl_Val W ok A3 x.f3.length x.f3 ∧ x.f4.length ≤ c4 ∧ Kd.F k_impl_Val W ok A4 x.f4.length x.f4 := by
  obtain ⟨A3, c3, A4, c4, rfl, l3, _, l4, _⟩ := k_impl_Frame_open (Kd.FK_now h)
  exact ⟨A3, c3, A4, c4, rfl, l3, (fun W' hW => by obtain ⟨A3_, c3_, A4_, c4_, he, l3_, g3_, l4_, g4_⟩ := k_impl_Frame_open (h W' hW); injection (Option.some.inj (show some (Value.slice A3 x.f3.length c3) = some (Value.slice A3_ x.f3.length c3_) from congrArg (fun l => l[3]?) he)) with ha_ _ _; rw [ha_]; exact g3_), l4, (fun W' hW => by obtain ⟨A3_, c3_, A4_, c4_, he, l3_, g3_, l4_, g4_⟩ := k_impl_Frame_open (h W' hW); injection (Option.some.inj (show some (Value.slice A4 x.f4.length c4) = some (Value.slice A4_ x.f4.length c4_) from congrArg (fun l => l[4]?) he)) with ha_ _ _; rw [ha_]; exact g4_)⟩
theorem k_impl_Frame_mkF (W : World) (ok : Nat → Prop) (x : S_impl_Frame) {A3 : Option Addr} {c3 : Nat} (l3 : x.f3.length ≤ c3) (g3 : Kd.F k_impl_Val W ok A3 x.f3.length x.f3) {A4 : Option Addr} {c4 : Nat} (l4 : x.f4.length ≤ c4) (g4 : Kd.F k_impl_Val W ok A4 x.f4.length x.f4) : Kd.FK k_impl_Frame W ok x [.int .i64 x.f0, .int .i64 x.f1, .int .i64 x.f2, .slice A3 x.f3.length c3, .slice A4 x.f4.length c4] := fun W2 hW => k_impl_Frame_mk W2 x l3 (g3 W2 hW) l4 (g4 W2 hW)
def rd_impl_Frame (xs : List S_impl_Frame) (i : Int) : S_impl_Frame := xs.getD i.toNat z_impl_Frame
theorem at_impl_Frame {w : World} {A : Option Addr} {n : Nat} {xs : List S_impl_Frame} (h : Kd.C k_impl_Frame w A n xs) (i : Int) (h0 : 0 ≤ i) (h1 : i < n) : ∃ ad A3 c3 A4 c4, A = some ad ∧ w.cell? (ad.add (i.toNat * 5)) = some (.int .i64 (rd_impl_Frame xs i).f0) ∧ w.cell? ⟨(ad.add (i.toNat * 5)).block, (ad.add (i.toNat * 5)).off + 1, none⟩ = some (.int .i64 (rd_impl_Frame xs i).f1) ∧ w.cell? ⟨(ad.add (i.toNat * 5)).block, (ad.add (i.toNat * 5)).off + 2, none⟩ = some (.int .i64 (rd_impl_Frame xs i).f2) ∧ w.cell? ⟨(ad.add (i.toNat * 5)).block, (ad.add (i.toNat * 5)).off + 3, none⟩ = some (.slice A3 (rd_impl_Frame xs i).f3.length c3) ∧ w.cell? ⟨(ad.add (i.toNat * 5)).block, (ad.add (i.toNat * 5)).off + 4, none⟩ = some (.slice A4 (rd_impl_Frame xs i).f4.length c4) ∧ (rd_impl_Frame xs i).f3.length ≤ c3 ∧ k_impl_Val.C w A3 (rd_impl_Frame xs i).f3.length (rd_impl_Frame xs i).f3 ∧ (rd_impl_Frame xs i).f4.length ≤ c4 ∧ k_impl_Val.C w A4 (rd_impl_Frame xs i).f4.length (rd_impl_Frame xs i).f4 := by
  obtain ⟨ad, c, e, _, hK, hc0⟩ := Kd.C_get h z_impl_Frame i h0 h1
  have hc : ∀ j u, c[j]? = some u → w.cell? (ad.add (i.toNat * 5 + j)) = some u := hc0
  obtain ⟨A3, c3, A4, c4, rfl, l3, g3, l4, g4⟩ := k_impl_Frame_open hK
  exact ⟨ad, A3, c3, A4, c4, e, hc 0 _ rfl, by rw [← add_field _ _ 1 (by omega)]; exact hc 1 _ rfl, by rw [← add_field _ _ 2 (by omega)]; exact hc 2 _ rfl, by rw [← add_field _ _ 3 (by omega)]; exact hc 3 _ rfl, by rw [← add_field _ _ 4 (by omega)]; exact hc 4 _ rfl, l3, g3, l4, g4⟩
def rdl_s_impl_Frame (xs : List (List S_impl_Frame)) (i : Int) : (List S_impl_Frame) := xs.getD i.toNat ([] : List S_impl_Frame)
theorem atl_s_impl_Frame {w : World} {A : Option Addr} {n : Nat} {xs : List (List S_impl_Frame)} (h : Kd.C (Kd.slice 184 k_impl_Frame) w A n xs) (i : Int) (h0 : 0 ≤ i) (h1 : i < n) : ∃ ad A0 c0, A = some ad ∧ w.cell? (ad.add i.toNat) = some (.slice A0 (rdl_s_impl_Frame xs i).length c0) ∧ (rdl_s_impl_Frame xs i).length ≤ c0 ∧ k_impl_Frame.C w A0 (rdl_s_impl_Frame xs i).length (rdl_s_impl_Frame xs i) := by
  obtain ⟨ad, c, e, _, hK, hc0⟩ := Kd.C_get h ([] : List S_impl_Frame) i h0 h1
  have hc : ∀ j u, c[j]? = some u → w.cell? (ad.add (i.toNat * 1 + j)) = some u := hc0
  obtain ⟨A0, c0, rfl, l0, g0⟩ := hK
  exact ⟨ad, A0, c0, e, by have hq := hc 0 _ rfl; rwa [Nat.mul_one, Nat.add_zero] at hq, l0, g0⟩
structure S_impl_Page where
  f0 : Int
  f1 : (List S_impl_Frame)
def z_impl_Page : S_impl_Page := ⟨(0 : Int), ([] : List S_impl_Frame)⟩
def k_impl_Page : Kd S_impl_Page := Kd.iso (Kd.pair (Kd.int .i64) (Kd.slice 184 k_impl_Frame)) (fun x : S_impl_Page => (x.f0, x.f1))
theorem k_impl_Page_open {w : World} {x : S_impl_Page} {cs : List Value} (h : k_impl_Page.K w x cs) : ∃ A1 c1, cs = [.int .i64 x.f0, .slice A1 x.f1.length c1] ∧ x.f1.length ≤ c1 ∧ k_impl_Frame.C w A1 x.f1.length x.f1 := by
  obtain ⟨_, _, rfl, rfl, ⟨A1, c1, rfl, l1, g1⟩⟩ := h
  exact ⟨A1, c1, rfl, l1, g1⟩
theorem k_impl_Page_openM {w : World} {base : Nat} {ok : Nat → Prop} {x : S_impl_Page} {cs : List Value} (h : k_impl_Page.M w base ok x cs) : ∃ v1, cs = [.int .i64 x.f0, v1] ∧ k_impl_Frame.R 184 w base ok v1 x.f1 := by
  obtain ⟨_, _, rfl, rfl, ⟨v1, rfl, g1⟩⟩ := h
  exact ⟨v1, rfl, g1⟩
theorem k_impl_Page_mk (w : World) (x : S_impl_Page) {A1 : Option Addr} {c1 : Nat} (l1 : x.f1.length ≤ c1) (g1 : k_impl_Frame.C w A1 x.f1.length x.f1) : k_impl_Page.K w x [.int .i64 x.f0, .slice A1 x.f1.length c1] := ⟨[.int .i64 x.f0], [.slice A1 x.f1.length c1], rfl, rfl, ⟨A1, c1, rfl, l1, g1⟩⟩
theorem k_impl_Page_mkM (w : World) (base : Nat) (ok : Nat → Prop) (x : S_impl_Page) {v1 : Value} (g1 : k_impl_Frame.R 184 w base ok v1 x.f1) : k_impl_Page.M w base ok x [.int .i64 x.f0, v1] := ⟨[.int .i64 x.f0], [v1], rfl, rfl, ⟨v1, rfl, g1⟩⟩
theorem k_impl_Page_openF {W : World} {ok : Nat → Prop} {x : S_impl_Page} {cs : List Value} (h : Kd.FK k_impl_Page W ok x cs) : ∃ A1 c1, cs = [.int .i64 x.f0, .slice A1 x.f1.length c1] ∧ x.f1.length ≤ c1 ∧ Kd.F k_impl_Frame W ok A1 x.f1.length x.f1 := by
  obtain ⟨A1, c1, rfl, l1, _⟩ := k_impl_Page_open (Kd.FK_now h)
  exact ⟨A1, c1, rfl, l1, (fun W' hW => by obtain ⟨A1_, c1_, he, l1_, g1_⟩ := k_impl_Page_open (h W' hW); injection (Option.some.inj (show some (Value.slice A1 x.f1.length c1) = some (Value.slice A1_ x.f1.length c1_) from congrArg (fun l => l[1]?) he)) with ha_ _ _; rw [ha_]; exact g1_)⟩
theorem k_impl_Page_mkF (W : World) (ok : Nat → Prop) (x : S_impl_Page) {A1 : Option Addr} {c1 : Nat} (l1 : x.f1.length ≤ c1) (g1 : Kd.F k_impl_Frame W ok A1 x.f1.length x.f1) : Kd.FK k_impl_Page W ok x [.int .i64 x.f0, .slice A1 x.f1.length c1] := fun W2 hW => k_impl_Page_mk W2 x l1 (g1 W2 hW)
def rd_impl_Page (xs : List S_impl_Page) (i : Int) : S_impl_Page := xs.getD i.toNat z_impl_Page
theorem at_impl_Page {w : World} {A : Option Addr} {n : Nat} {xs : List S_impl_Page} (h : Kd.C k_impl_Page w A n xs) (i : Int) (h0 : 0 ≤ i) (h1 : i < n) : ∃ ad A1 c1, A = some ad ∧ w.cell? (ad.add (i.toNat * 2)) = some (.int .i64 (rd_impl_Page xs i).f0) ∧ w.cell? ⟨(ad.add (i.toNat * 2)).block, (ad.add (i.toNat * 2)).off + 1, none⟩ = some (.slice A1 (rd_impl_Page xs i).f1.length c1) ∧ (rd_impl_Page xs i).f1.length ≤ c1 ∧ k_impl_Frame.C w A1 (rd_impl_Page xs i).f1.length (rd_impl_Page xs i).f1 := by
  obtain ⟨ad, c, e, _, hK, hc0⟩ := Kd.C_get h z_impl_Page i h0 h1
  have hc : ∀ j u, c[j]? = some u → w.cell? (ad.add (i.toNat * 2 + j)) = some u := hc0
  obtain ⟨A1, c1, rfl, l1, g1⟩ := k_impl_Page_open hK
  exact ⟨ad, A1, c1, e, hc 0 _ rfl, by rw [← add_field _ _ 1 (by omega)]; exact hc 1 _ rfl, l1, g1⟩
structure S_impl_Twin where
  f0 : Int
  f1 : Int
  f2 : S_impl_Call
def z_impl_Twin : S_impl_Twin := ⟨(0 : Int), (0 : Int), z_impl_Call⟩
def k_impl_Twin : Kd S_impl_Twin := Kd.iso (Kd.pair (Kd.int .i64) (Kd.pair (Kd.int .i64) k_impl_Call)) (fun x : S_impl_Twin => (x.f0, x.f1, x.f2))
theorem k_impl_Twin_open {w : World} {x : S_impl_Twin} {cs : List Value} (h : k_impl_Twin.K w x cs) : ∃ A4 c4 A5 c5, cs = [.int .i64 x.f0, .int .i64 x.f1, .int .i64 x.f2.f0, .int .i64 x.f2.f1, .slice A4 x.f2.f2.length c4, .slice A5 x.f2.f3.length c5, .int .i64 x.f2.f4, .bool x.f2.f5] ∧ x.f2.f2.length ≤ c4 ∧ k_impl_Val.C w A4 x.f2.f2.length x.f2.f2 ∧ x.f2.f3.length ≤ c5 ∧ k_impl_Val.C w A5 x.f2.f3.length x.f2.f3 := by
  obtain ⟨_, _, rfl, rfl, ⟨_, _, rfl, rfl, s2⟩⟩ := h
  obtain ⟨A4, c4, A5, c5, rfl, l4, g4, l5, g5⟩ := k_impl_Call_open s2
  exact ⟨A4, c4, A5, c5, rfl, l4, g4, l5, g5⟩
theorem k_impl_Twin_openM {w : World} {base : Nat} {ok : Nat → Prop} {x : S_impl_Twin} {cs : List Value} (h : k_impl_Twin.M w base ok x cs) : ∃ v4 v5, cs = [.int .i64 x.f0, .int .i64 x.f1, .int .i64 x.f2.f0, .int .i64 x.f2.f1, v4, v5, .int .i64 x.f2.f4, .bool x.f2.f5] ∧ k_impl_Val.R 134 w base ok v4 x.f2.f2 ∧ k_impl_Val.R 134 w base ok v5 x.f2.f3 := by
  obtain ⟨_, _, rfl, rfl, ⟨_, _, rfl, rfl, s2⟩⟩ := h
  obtain ⟨v4, v5, rfl, g4, g5⟩ := k_impl_Call_openM s2
  exact ⟨v4, v5, rfl, g4, g5⟩
theorem k_impl_Twin_mk (w : World) (x : S_impl_Twin) {A4 : Option Addr} {c4 : Nat} (l4 : x.f2.f2.length ≤ c4) (g4 : k_impl_Val.C w A4 x.f2.f2.length x.f2.f2) {A5 : Option Addr} {c5 : Nat} (l5 : x.f2.f3.length ≤ c5) (g5 : k_impl_Val.C w A5 x.f2.f3.length x.f2.f3) : k_impl_Twin.K w x [.int .i64 x.f0, .int .i64 x.f1, .int .i64 x.f2.f0, .int .i64 x.f2.f1, .slice A4 x.f2.f2.length c4, .slice A5 x.f2.f3.length c5, .int .i64 x.f2.f4, .bool x.f2.f5] := ⟨[.int .i64 x.f0], [.int .i64 x.f1, .int .i64 x.f2.f0, .int .i64 x.f2.f1, .slice A4 x.f2.f2.length c4, .slice A5 x.f2.f3.length c5, .int .i64 x.f2.f4, .bool x.f2.f5], rfl, rfl, ⟨[.int .i64 x.f1], [.int .i64 x.f2.f0, .int .i64 x.f2.f1, .slice A4 x.f2.f2.length c4, .slice A5 x.f2.f3.length c5, .int .i64 x.f2.f4, .bool x.f2.f5], rfl, rfl, (k_impl_Call_mk w x.f2 l4 g4 l5 g5)⟩⟩
theorem k_impl_Twin_mkM (w : World) (base : Nat) (ok : Nat → Prop) (x : S_impl_Twin) {v4 : Value} (g4 : k_impl_Val.R 134 w base ok v4 x.f2.f2) {v5 : Value} (g5 : k_impl_Val.R 134 w base ok v5 x.f2.f3) : k_impl_Twin.M w base ok x [.int .i64 x.f0, .int .i64 x.f1, .int .i64 x.f2.f0, .int .i64 x.f2.f1, v4, v5, .int .i64 x.f2.f4, .bool x.f2.f5] := ⟨[.int .i64 x.f0], [.int .i64 x.f1, .int .i64 x.f2.f0, .int .i64 x.f2.f1, v4, v5, .int .i64 x.f2.f4, .bool x.f2.f5], rfl, rfl, ⟨[.int .i64 x.f1], [.int .i64 x.f2.f0, .int .i64 x.f2.f1, v4, v5, .int .i64 x.f2.f4, .bool x.f2.f5], rfl, rfl, (k_impl_Call_mkM w base ok x.f2 g4 g5)⟩⟩
theorem k_impl_Twin_openF {W : World} {ok : Nat → Prop} {x : S_impl_Twin} {cs : List Value} (h : Kd.FK k_impl_Twin W ok x cs) : ∃ A4 c4 A5 c5, cs = [.int .i64 x.f0, .int .i64 x.f1, .int .i64 x.f2.f0, .int .i64 x.f2.f1, .slice A4 x.f2.f2.length c4, .slice A5 x.f2.f3.length c5, .int .i64 x.f2.f4, .bool x.f2.f5] ∧ x.f2.f2.length ≤ c4 ∧ Kd.F k_impl_Val W ok A4 x.f2.f2.length x.f2.f2 ∧ x.f2.f3.length ≤ c5 ∧ Kd.F k_impl_Val W ok A5 x.f2.f3.length x.f2.f3 := by
  obtain ⟨A4, c4, A5, c5, rfl, l4, _, l5, _⟩ := k_impl_Twin_open (Kd.FK_now h)
  exact ⟨A4, c4, A5, c5, rfl, l4, (fun W' hW => by obtain ⟨A4_, c4_, A5_, c5_, he, l4_, g4_, l5_, g5_⟩ := k_impl_Twin_open (h W' hW); injection (Option.some.inj (show some (Value.slice A4 x.f2.f2.length c4) = some (Value.slice A4_ x.f2.f2.length c4_) from congrArg (fun l => l[4]?) he)) with ha_ _ _; rw [ha_]; exact g4_), l5, (fun W' hW => by obtain ⟨A4_, c4_, A5_, c5_, he, l4_, g4_, l5_, g5_⟩ := k_impl_Twin_open (h W' hW); injection (Option.some.inj (show some (Value.slice A5 x.f2.f3.length c5) = some (Value.slice A5_ x.f2.f3.length c5_) from congrArg (fun l => l[5]?) he)) with ha_ _ _; rw [ha_]; exact g5_)⟩
theorem k_impl_Twin_mkF (W : World) (ok : Nat → Prop) (x : S_impl_Twin) {A4 : Option Addr} {c4 : Nat} (l4 : x.f2.f2.length ≤ c4) (g4 : Kd.F k_impl_Val W ok A4 x.f2.f2.length x.f2.f2) {A5 : Option Addr} {c5 : Nat} (l5 : x.f2.f3.length ≤ c5) (g5 : Kd.F k_impl_Val W ok A5 x.f2.f3.length x.f2.f3) : Kd.FK k_impl_Twin W ok x [.int .i64 x.f0, .int .i64 x.f1, .int .i64 x.f2.f0, .int .i64 x.f2.f1, .slice A4 x.f2.f2.length c4, .slice A5 x.f2.f3.length c5, .int .i64 x.f2.f4, .bool x.f2.f5] := fun W2 hW => k_impl_Twin_mk W2 x l4 (g4 W2 hW) l5 (g5 W2 hW)
def rd_impl_Twin (xs : List S_impl_Twin) (i : Int) : S_impl_Twin := xs.getD i.toNat z_impl_Twin
theorem at_impl_Twin {w : World} {A : Option Addr} {n : Nat} {xs : List S_impl_Twin} (h : Kd.C k_impl_Twin w A n xs) (i : Int) (h0 : 0 ≤ i) (h1 : i < n) : ∃ ad A4 c4 A5 c5, A = some ad ∧ w.cell? (ad.add (i.toNat * 8)) = some (.int .i64 (rd_impl_Twin xs i).f0) ∧ w.cell? ⟨(ad.add (i.toNat * 8)).block, (ad.add (i.toNat * 8)).off + 1, none⟩ = some (.int .i64 (rd_impl_Twin xs i).f1) ∧ w.cell? ⟨(ad.add (i.toNat * 8)).block, (ad.add (i.toNat * 8)).off + 2, none⟩ = some (.int .i64 (rd_impl_Twin xs i).f2.f0) ∧ w.cell? ⟨(ad.add (i.toNat * 8)).block, (ad.add (i.toNat * 8)).off + 3, none⟩ = some (.int .i64 (rd_impl_Twin xs i).f2.f1) ∧ w.cell? ⟨(ad.add (i.toNat * 8)).block, (ad.add (i.toNat * 8)).off + 4, none⟩ = some (.slice A4 (rd_impl_Twin xs i).f2.f2.length c4) ∧ w.cell? ⟨(ad.add (i.toNat * 8)).block, (ad.add (i.toNat * 8)).off + 5, none⟩ = some (.slice A5 (rd_impl_Twin xs i).f2.f3.length c5) ∧ w.cell? ⟨(ad.add (i.toNat * 8)).block, (ad.add (i.toNat * 8)).off + 6, none⟩ = some (.int .i64 (rd_impl_Twin xs i).f2.f4) ∧ w.cell? ⟨(ad.add (i.toNat * 8)).block, (ad.add (i.toNat * 8)).off + 7, none⟩ = some (.bool (rd_impl_Twin xs i).f2.f5) ∧ (rd_impl_Twin xs i).f2.f2.length ≤ c4 ∧ k_impl_Val.C w A4 (rd_impl_Twin xs i).f2.f2.length (rd_impl_Twin xs i).f2.f2 ∧ (rd_impl_Twin xs i).f2.f3.length ≤ c5 ∧ k_impl_Val.C w A5 (rd_impl_Twin xs i).f2.f3.length (rd_impl_Twin xs i).f2.f3 := by
  obtain ⟨ad, c, e, _, hK, hc0⟩ := Kd.C_get h z_impl_Twin i h0 h1
  have hc : ∀ j u, c[j]? = some u → w.cell? (ad.add (i.toNat * 8 + j)) = some u := hc0
  obtain ⟨A4, c4, A5, c5, rfl, l4, g4, l5, g5⟩ := k_impl_Twin_open hK
  exact ⟨ad, A4, c4, A5, c5, e, hc 0 _ rfl, by rw [← add_field _ _ 1 (by omega)]; exact hc 1 _ rfl, by rw [← add_field _ _ 2 (by omega)]; exact hc 2 _ rfl, by rw [← add_field _ _ 3 (by omega)]; exact hc 3 _ rfl, by rw [← add_field _ _ 4 (by omega)]; exact hc 4 _ rfl, by rw [← add_field _ _ 5 (by omega)]; exact hc 5 _ rfl, by rw [← add_field _ _ 6 (by omega)]; exact hc 6 _ rfl, by rw [← add_field _ _ 7 (by omega)]; exact hc 7 _ rfl, l4, g4, l5, g5⟩
theorem bw_ {p : Prop} (h : p := by repeat (first | (with_reducible first | exact HB.out | apply below_alloc | apply pw_below_drewN | apply below_drew1 | refine below_set ?_ (Aside0.out (by assumption))) | exact HB.out)) : p := h
theorem cb_ {p : Prop} (h : p := by repeat (first | exact Kd.C_below (Aside0.out (by assumption)) HB.out | exact Kd.C_below (Aside0.out (by assumption)) bw_ | (with_reducible refine Kd.C_alloc ?_ _) | (with_reducible refine Kd.C_drewN ?_ _) | (with_reducible refine Kd.C_drew ?_))) : p := h
theorem blkF1_ {w : World} {g t : Nat} {a0 : Value} (h : w.heap[g]? = some (.cells #[a0] t (0, 0))) : w.cell? ⟨g, 0, none⟩ = some a0 ∧ w.frozen? ⟨g, 0, none⟩ = false := ⟨(blk_cell h 0).trans rfl, blk_frozen h 0⟩
theorem blkF2_ {w : World} {g t : Nat} {a0 a1 : Value} (h : w.heap[g]? = some (.cells #[a0, a1] t (0, 0))) : w.cell? ⟨g, 0, none⟩ = some a0 ∧ w.cell? ⟨g, 1, none⟩ = some a1 ∧ w.frozen? ⟨g, 0, none⟩ = false ∧ w.frozen? ⟨g, 1, none⟩ = false := ⟨(blk_cell h 0).trans rfl, (blk_cell h 1).trans rfl, blk_frozen h 0, blk_frozen h 1⟩
theorem blkF3_ {w : World} {g t : Nat} {a0 a1 a2 : Value} (h : w.heap[g]? = some (.cells #[a0, a1, a2] t (0, 0))) : w.cell? ⟨g, 0, none⟩ = some a0 ∧ w.cell? ⟨g, 1, none⟩ = some a1 ∧ w.cell? ⟨g, 2, none⟩ = some a2 ∧ w.frozen? ⟨g, 0, none⟩ = false ∧ w.frozen? ⟨g, 1, none⟩ = false ∧ w.frozen? ⟨g, 2, none⟩ = false := ⟨(blk_cell h 0).trans rfl, (blk_cell h 1).trans rfl, (blk_cell h 2).trans rfl, blk_frozen h 0, blk_frozen h 1, blk_frozen h 2⟩
theorem blkF4_ {w : World} {g t : Nat} {a0 a1 a2 a3 : Value} (h : w.heap[g]? = some (.cells #[a0, a1, a2, a3] t (0, 0))) : w.cell? ⟨g, 0, none⟩ = some a0 ∧ w.cell? ⟨g, 1, none⟩ = some a1 ∧ w.cell? ⟨g, 2, none⟩ = some a2 ∧ w.cell? ⟨g, 3, none⟩ = some a3 ∧ w.frozen? ⟨g, 0, none⟩ = false ∧ w.frozen? ⟨g, 1, none⟩ = false ∧ w.frozen? ⟨g, 2, none⟩ = false ∧ w.frozen? ⟨g, 3, none⟩ = false := ⟨(blk_cell h 0).trans rfl, (blk_cell h 1).trans rfl, (blk_cell h 2).trans rfl, (blk_cell h 3).trans rfl, blk_frozen h 0, blk_frozen h 1, blk_frozen h 2, blk_frozen h 3⟩
theorem blkF5_ {w : World} {g t : Nat} {a0 a1 a2 a3 a4 : Value} (h : w.heap[g]? = some (.cells #[a0, a1, a2, a3, a4] t (0, 0))) : w.cell? ⟨g, 0, none⟩ = some a0 ∧ w.cell? ⟨g, 1, none⟩ = some a1 ∧ w.cell? ⟨g, 2, none⟩ = some a2 ∧ w.cell? ⟨g, 3, none⟩ = some a3 ∧ w.cell? ⟨g, 4, none⟩ = some a4 ∧ w.frozen? ⟨g, 0, none⟩ = false ∧ w.frozen? ⟨g, 1, none⟩ = false ∧ w.frozen? ⟨g, 2, none⟩ = false ∧ w.frozen? ⟨g, 3, none⟩ = false ∧ w.frozen? ⟨g, 4, none⟩ = false := ⟨(blk_cell h 0).trans rfl, (blk_cell h 1).trans rfl, (blk_cell h 2).trans rfl, (blk_cell h 3).trans rfl, (blk_cell h 4).trans rfl, blk_frozen h 0, blk_frozen h 1, blk_frozen h 2, blk_frozen h 3, blk_frozen h 4⟩
theorem blkF6_ {w : World} {g t : Nat} {a0 a1 a2 a3 a4 a5 : Value} (h : w.heap[g]? = some (.cells #[a0, a1, a2, a3, a4, a5] t (0, 0))) : w.cell? ⟨g, 0, none⟩ = some a0 ∧ w.cell? ⟨g, 1, none⟩ = some a1 ∧ w.cell? ⟨g, 2, none⟩ = some a2 ∧ w.cell? ⟨g, 3, none⟩ = some a3 ∧ w.cell? ⟨g, 4, none⟩ = some a4 ∧ w.cell? ⟨g, 5, none⟩ = some a5 ∧ w.frozen? ⟨g, 0, none⟩ = false ∧ w.frozen? ⟨g, 1, none⟩ = false ∧ w.frozen? ⟨g, 2, none⟩ = false ∧ w.frozen? ⟨g, 3, none⟩ = false ∧ w.frozen? ⟨g, 4, none⟩ = false ∧ w.frozen? ⟨g, 5, none⟩ = false := ⟨(blk_cell h 0).trans rfl, (blk_cell h 1).trans rfl, (blk_cell h 2).trans rfl, (blk_cell h 3).trans rfl, (blk_cell h 4).trans rfl, (blk_cell h 5).trans rfl, blk_frozen h 0, blk_frozen h 1, blk_frozen h 2, blk_frozen h 3, blk_frozen h 4, blk_frozen h 5⟩
theorem blkF7_ {w : World} {g t : Nat} {a0 a1 a2 a3 a4 a5 a6 : Value} (h : w.heap[g]? = some (.cells #[a0, a1, a2, a3, a4, a5, a6] t (0, 0))) : w.cell? ⟨g, 0, none⟩ = some a0 ∧ w.cell? ⟨g, 1, none⟩ = some a1 ∧ w.cell? ⟨g, 2, none⟩ = some a2 ∧ w.cell? ⟨g, 3, none⟩ = some a3 ∧ w.cell? ⟨g, 4, none⟩ = some a4 ∧ w.cell? ⟨g, 5, none⟩ = some a5 ∧ w.cell? ⟨g, 6, none⟩ = some a6 ∧ w.frozen? ⟨g, 0, none⟩ = false ∧ w.frozen? ⟨g, 1, none⟩ = false ∧ w.frozen? ⟨g, 2, none⟩ = false ∧ w.frozen? ⟨g, 3, none⟩ = false ∧ w.frozen? ⟨g, 4, none⟩ = false ∧ w.frozen? ⟨g, 5, none⟩ = false ∧ w.frozen? ⟨g, 6, none⟩ = false := ⟨(blk_cell h 0).trans rfl, (blk_cell h 1).trans rfl, (blk_cell h 2).trans rfl, (blk_cell h 3).trans rfl, (blk_cell h 4).trans rfl, (blk_cell h 5).trans rfl, (blk_cell h 6).trans rfl, blk_frozen h 0, blk_frozen h 1, blk_frozen h 2, blk_frozen h 3, blk_frozen h 4, blk_frozen h 5, blk_frozen h 6⟩
theorem blkF8_ {w : World} {g t : Nat} {a0 a1 a2 a3 a4 a5 a6 a7 : Value} (h : w.heap[g]? = some (.cells #[a0, a1, a2, a3, a4, a5, a6, a7] t (0, 0))) : w.cell? ⟨g, 0, none⟩ = some a0 ∧ w.cell? ⟨g, 1, none⟩ = some a1 ∧ w.cell? ⟨g, 2, none⟩ = some a2 ∧ w.cell? ⟨g, 3, none⟩ = some a3 ∧ w.cell? ⟨g, 4, none⟩ = some a4 ∧ w.cell? ⟨g, 5, none⟩ = some a5 ∧ w.cell? ⟨g, 6, none⟩ = some a6 ∧ w.cell? ⟨g, 7, none⟩ = some a7 ∧ w.frozen? ⟨g, 0, none⟩ = false ∧ w.frozen? ⟨g, 1, none⟩ = false ∧ w.frozen? ⟨g, 2, none⟩ = false ∧ w.frozen? ⟨g, 3, none⟩ = false ∧ w.frozen? ⟨g, 4, none⟩ = false ∧ w.frozen? ⟨g, 5, none⟩ = false ∧ w.frozen? ⟨g, 6, none⟩ = false ∧ w.frozen? ⟨g, 7, none⟩ = false := ⟨(blk_cell h 0).trans rfl, (blk_cell h 1).trans rfl, (blk_cell h 2).trans rfl, (blk_cell h 3).trans rfl, (blk_cell h 4).trans rfl, (blk_cell h 5).trans rfl, (blk_cell h 6).trans rfl, (blk_cell h 7).trans rfl, blk_frozen h 0, blk_frozen h 1, blk_frozen h 2, blk_frozen h 3, blk_frozen h 4, blk_frozen h 5, blk_frozen h 6, blk_frozen h 7⟩
theorem blkF9_ {w : World} {g t : Nat} {a0 a1 a2 a3 a4 a5 a6 a7 a8 : Value} (h : w.heap[g]? = some (.cells #[a0, a1, a2, a3, a4, a5, a6, a7, a8] t (0, 0))) : w.cell? ⟨g, 0, none⟩ = some a0 ∧ w.cell? ⟨g, 1, none⟩ = some a1 ∧ w.cell? ⟨g, 2, none⟩ = some a2 ∧ w.cell? ⟨g, 3, none⟩ = some a3 ∧ w.cell? ⟨g, 4, none⟩ = some a4 ∧ w.cell? ⟨g, 5, none⟩ = some a5 ∧ w.cell? ⟨g, 6, none⟩ = some a6 ∧ w.cell? ⟨g, 7, none⟩ = some a7 ∧ w.cell? ⟨g, 8, none⟩ = some a8 ∧ w.frozen? ⟨g, 0, none⟩ = false ∧ w.frozen? ⟨g, 1, none⟩ = false ∧ w.frozen? ⟨g, 2, none⟩ = false ∧ w.frozen? ⟨g, 3, none⟩ = false ∧ w.frozen? ⟨g, 4, none⟩ = false ∧ w.frozen? ⟨g, 5, none⟩ = false ∧ w.frozen? ⟨g, 6, none⟩ = false ∧ w.frozen? ⟨g, 7, none⟩ = false ∧ w.frozen? ⟨g, 8, none⟩ = false := ⟨(blk_cell h 0).trans rfl, (blk_cell h 1).trans rfl, (blk_cell h 2).trans rfl, (blk_cell h 3).trans rfl, (blk_cell h 4).trans rfl, (blk_cell h 5).trans rfl, (blk_cell h 6).trans rfl, (blk_cell h 7).trans rfl, (blk_cell h 8).trans rfl, blk_frozen h 0, blk_frozen h 1, blk_frozen h 2, blk_frozen h 3, blk_frozen h 4, blk_frozen h 5, blk_frozen h 6, blk_frozen h 7, blk_frozen h 8⟩
theorem blkF10_ {w : World} {g t : Nat} {a0 a1 a2 a3 a4 a5 a6 a7 a8 a9 : Value} (h : w.heap[g]? = some (.cells #[a0, a1, a2, a3, a4, a5, a6, a7, a8, a9] t (0, 0))) : w.cell? ⟨g, 0, none⟩ = some a0 ∧ w.cell? ⟨g, 1, none⟩ = some a1 ∧ w.cell? ⟨g, 2, none⟩ = some a2 ∧ w.cell? ⟨g, 3, none⟩ = some a3 ∧ w.cell? ⟨g, 4, none⟩ = some a4 ∧ w.cell? ⟨g, 5, none⟩ = some a5 ∧ w.cell? ⟨g, 6, none⟩ = some a6 ∧ w.cell? ⟨g, 7, none⟩ = some a7 ∧ w.cell? ⟨g, 8, none⟩ = some a8 ∧ w.cell? ⟨g, 9, none⟩ = some a9 ∧ w.frozen? ⟨g, 0, none⟩ = false ∧ w.frozen? ⟨g, 1, none⟩ = false ∧ w.frozen? ⟨g, 2, none⟩ = false ∧ w.frozen? ⟨g, 3, none⟩ = false ∧ w.frozen? ⟨g, 4, none⟩ = false ∧ w.frozen? ⟨g, 5, none⟩ = false ∧ w.frozen? ⟨g, 6, none⟩ = false ∧ w.frozen? ⟨g, 7, none⟩ = false ∧ w.frozen? ⟨g, 8, none⟩ = false ∧ w.frozen? ⟨g, 9, none⟩ = false := ⟨(blk_cell h 0).trans rfl, (blk_cell h 1).trans rfl, (blk_cell h 2).trans rfl, (blk_cell h 3).trans rfl, (blk_cell h 4).trans rfl, (blk_cell h 5).trans rfl, (blk_cell h 6).trans rfl, (blk_cell h 7).trans rfl, (blk_cell h 8).trans rfl, (blk_cell h 9).trans rfl, blk_frozen h 0, blk_frozen h 1, blk_frozen h 2, blk_frozen h 3, blk_frozen h 4, blk_frozen h 5, blk_frozen h 6, blk_frozen h 7, blk_frozen h 8, blk_frozen h 9⟩
theorem blkF11_ {w : World} {g t : Nat} {a0 a1 a2 a3 a4 a5 a6 a7 a8 a9 a10 : Value} (h : w.heap[g]? = some (.cells #[a0, a1, a2, a3, a4, a5, a6, a7, a8, a9, a10] t (0, 0))) : w.cell? ⟨g, 0, none⟩ = some a0 ∧ w.cell? ⟨g, 1, none⟩ = some a1 ∧ w.cell? ⟨g, 2, none⟩ = some a2 ∧ w.cell? ⟨g, 3, none⟩ = some a3 ∧ w.cell? ⟨g, 4, none⟩ = some a4 ∧ w.cell? ⟨g, 5, none⟩ = some a5 ∧ w.cell? ⟨g, 6, none⟩ = some a6 ∧ w.cell? ⟨g, 7, none⟩ = some a7 ∧ w.cell? ⟨g, 8, none⟩ = some a8 ∧ w.cell? ⟨g, 9, none⟩ = some a9 ∧ w.cell? ⟨g, 10, none⟩ = some a10 ∧ w.frozen? ⟨g, 0, none⟩ = false ∧ w.frozen? ⟨g, 1, none⟩ = false ∧ w.frozen? ⟨g, 2, none⟩ = false ∧ w.frozen? ⟨g, 3, none⟩ = false ∧ w.frozen? ⟨g, 4, none⟩ = false ∧ w.frozen? ⟨g, 5, none⟩ = false ∧ w.frozen? ⟨g, 6, none⟩ = false ∧ w.frozen? ⟨g, 7, none⟩ = false ∧ w.frozen? ⟨g, 8, none⟩ = false ∧ w.frozen? ⟨g, 9, none⟩ = false ∧ w.frozen? ⟨g, 10, none⟩ = false := ⟨(blk_cell h 0).trans rfl, (blk_cell h 1).trans rfl, (blk_cell h 2).trans rfl, (blk_cell h 3).trans rfl, (blk_cell h 4).trans rfl, (blk_cell h 5).trans rfl, (blk_cell h 6).trans rfl, (blk_cell h 7).trans rfl, (blk_cell h 8).trans rfl, (blk_cell h 9).trans rfl, (blk_cell h 10).trans rfl, blk_frozen h 0, blk_frozen h 1, blk_frozen h 2, blk_frozen h 3, blk_frozen h 4, blk_frozen h 5, blk_frozen h 6, blk_frozen h 7, blk_frozen h 8, blk_frozen h 9, blk_frozen h 10⟩
theorem blkF12_ {w : World} {g t : Nat} {a0 a1 a2 a3 a4 a5 a6 a7 a8 a9 a10 a11 : Value} (h : w.heap[g]? = some (.cells #[a0, a1, a2, a3, a4, a5, a6, a7, a8, a9, a10, a11] t (0, 0))) : w.cell? ⟨g, 0, none⟩ = some a0 ∧ w.cell? ⟨g, 1, none⟩ = some a1 ∧ w.cell? ⟨g, 2, none⟩ = some a2 ∧ w.cell? ⟨g, 3, none⟩ = some a3 ∧ w.cell? ⟨g, 4, none⟩ = some a4 ∧ w.cell? ⟨g, 5, none⟩ = some a5 ∧ w.cell? ⟨g, 6, none⟩ = some a6 ∧ w.cell? ⟨g, 7, none⟩ = some a7 ∧ w.cell? ⟨g, 8, none⟩ = some a8 ∧ w.cell? ⟨g, 9, none⟩ = some a9 ∧ w.cell? ⟨g, 10, none⟩ = some a10 ∧ w.cell? ⟨g, 11, none⟩ = some a11 ∧ w.frozen? ⟨g, 0, none⟩ = false ∧ w.frozen? ⟨g, 1, none⟩ = false ∧ w.frozen? ⟨g, 2, none⟩ = false ∧ w.frozen? ⟨g, 3, none⟩ = false ∧ w.frozen? ⟨g, 4, none⟩ = false ∧ w.frozen? ⟨g, 5, none⟩ = false ∧ w.frozen? ⟨g, 6, none⟩ = false ∧ w.frozen? ⟨g, 7, none⟩ = false ∧ w.frozen? ⟨g, 8, none⟩ = false ∧ w.frozen? ⟨g, 9, none⟩ = false ∧ w.frozen? ⟨g, 10, none⟩ = false ∧ w.frozen? ⟨g, 11, none⟩ = false := ⟨(blk_cell h 0).trans rfl, (blk_cell h 1).trans rfl, (blk_cell h 2).trans rfl, (blk_cell h 3).trans rfl, (blk_cell h 4).trans rfl, (blk_cell h 5).trans rfl, (blk_cell h 6).trans rfl, (blk_cell h 7).trans rfl, (blk_cell h 8).trans rfl, (blk_cell h 9).trans rfl, (blk_cell h 10).trans rfl, (blk_cell h 11).trans rfl, blk_frozen h 0, blk_frozen h 1, blk_frozen h 2, blk_frozen h 3, blk_frozen h 4, blk_frozen h 5, blk_frozen h 6, blk_frozen h 7, blk_frozen h 8, blk_frozen h 9, blk_frozen h 10, blk_frozen h 11⟩
end Go.Proofs.Ytcllkemhlhbdgaa.G
namespace Go.Proofs.Ytcllkemhlhbdgaa.G
open Go.RowKit Go.Proofs.YtcllkemhlhbdgaaW.PrintWords Go.Proofs.YtcllkemhlhbdgaaW.PrintLast Go.Proofs.YtcllkemhlhbdgaaW.PrintMore
attribute [local go_sem] max2_int min2_int max_two min_two max_three min_three max_four min_four
set_option linter.unusedVariables false
set_option linter.unusedSimpArgs false
def Opens {α : Type} (k : Kd α) (Wf : α → Prop) (t : TypeId) : Prop :=
  ∀ (H : Type) (enc : TypeId × Value → H) (w : World) (base : Nat) (spare : Nat → Bool) (held : Bool) (fuel : Nat) (cs : List Value) (x : DataW H × List MemPlace), DataW.trod enc Try.prog w base spare held fuel t cs = some x → ∃ a, k.K w a cs ∧ Wf a
def In64 (n : Int) : Prop := -9223372036854775808 ≤ n ∧ n ≤ 9223372036854775807
theorem opens_i64 {t : TypeId} (ht : Try.prog.underlying t = some (.int .i64)) : Opens (Kd.int .i64) In64 t := by
  intro H enc w base spare held fuel cs x h
  obtain ⟨n, rfl, -, hw⟩ := DataW.trod_int ht h
  exact ⟨n, rfl, bounds_i64 hw⟩
theorem opens_bool {t : TypeId} (ht : Try.prog.underlying t = some .bool) : Opens Kd.bool (fun _ => True) t := by
  intro H enc w base spare held fuel cs x h
  obtain ⟨n, rfl, -⟩ := DataW.trod_bool ht h
  exact ⟨n, rfl, trivial⟩
theorem list_of {α : Type} {n : Nat} {p : Nat → α → Prop} (h : ∀ i, i < n → ∃ x, p i x) : ∃ l : List α, l.length = n ∧ ∀ i x, l[i]? = some x → p i x := by
  induction n with
  | zero => exact ⟨[], rfl, fun i x hx => by simp at hx⟩
  | succ n ih =>
    obtain ⟨l, hl, hp⟩ := ih (fun i hi => h i (Nat.lt_succ_of_lt hi))
    obtain ⟨y, hy⟩ := h n (Nat.lt_succ_self n)
    refine ⟨l ++ [y], by simp [hl], fun i x hx => ?_⟩
    rcases Nat.lt_or_ge i n with hi | hi
    · rw [List.getElem?_append_left (by omega)] at hx
      exact hp i x hx
    · have hi' : i = n := by
        have := (List.getElem?_eq_some_iff.1 hx).1
        simp at this
        omega
      subst hi'
      rw [List.getElem?_append_right (by omega)] at hx
      simp [hl] at hx
      rw [← hx]
      exact hy
theorem opens_slice {α : Type} {k : Kd α} {Wf : α → Prop} {t e : TypeId} (ht : Try.prog.underlying t = some (.slice e)) (hs : Try.prog.cellsOf e = k.sz) (he : Opens k Wf e) : Opens (Kd.slice e k) (fun l => l.length ≤ 9223372036854775807 ∧ ∀ x ∈ l, Wf x) t := by
  intro H enc w base spare held fuel cs x h
  rcases Go.Deep.open_slice ht h with ⟨rfl, -⟩ | ⟨a, len, cap, m, n, D, Pl, rfl, -, hl, hm, hmm, -, hx⟩
  · exact ⟨[], ⟨none, 0, rfl, Nat.le_refl _, rfl, by simp, fun h => absurd h (Nat.lt_irrefl 0)⟩, by simp, fun x hx => by simp at hx⟩
  · have hle : len ≤ m := by rw [hmm]; split <;> omega
    obtain ⟨l, hll, hlp⟩ := list_of (n := len) (p := fun i x => Wf x ∧ ∃ c, c.length = k.sz ∧ k.K w x c ∧ ∀ j u, c[j]? = some u → w.cell? (a.add (i * k.sz + j)) = some u) (fun i hi => by
      obtain ⟨cs', h1, h2⟩ := hx i (by omega)
      obtain ⟨y, hK, hW⟩ := he _ _ _ _ _ _ _ _ _ h2
      obtain ⟨-, hlen, hcell⟩ := World.cells?_some h1
      refine ⟨y, hW, cs', by rw [hlen, hs], hK, fun j u hu => ?_⟩
      have hj : j < cs'.length := (List.getElem?_eq_some_iff.1 hu).1
      have := hcell j (by omega)
      rw [Go.Deep.add_add, hs] at this
      rw [this, hu])
    have hcap : len ≤ 9223372036854775807 := by unfold maxLen at hm; omega
    refine ⟨l, ⟨some a, cap, by rw [hll], by omega, rfl, by omega, fun _ => ⟨a, rfl, fun j p hp => (hlp j p hp).2⟩⟩, by omega, fun x hx => ?_⟩
    obtain ⟨i, hi, rfl⟩ := List.mem_iff_getElem.mp hx
    exact (hlp i _ (List.getElem?_eq_getElem hi)).1
end Go.Proofs.Ytcllkemhlhbdgaa.G
namespace Go.Proofs.Ytcllkemhlhbdgaa.G
open Go.RowKit Go.Proofs.YtcllkemhlhbdgaaW.PrintWords Go.Proofs.YtcllkemhlhbdgaaW.PrintLast Go.Proofs.YtcllkemhlhbdgaaW.PrintMore
attribute [local go_sem] max2_int min2_int max_two min_two max_three min_three max_four min_four
set_option linter.unusedVariables false
set_option linter.unusedSimpArgs false
theorem list_1 {α : Type} (l : List α) (h : l.length = 1) : ∃ c0, l = [c0] := by
  match l, h with
  | [c0], _ => exact ⟨c0, rfl⟩
theorem list_2 {α : Type} (l : List α) (h : l.length = 2) : ∃ c0 c1, l = [c0, c1] := by
  match l, h with
  | [c0, c1], _ => exact ⟨c0, c1, rfl⟩
theorem list_3 {α : Type} (l : List α) (h : l.length = 3) : ∃ c0 c1 c2, l = [c0, c1, c2] := by
  match l, h with
  | [c0, c1, c2], _ => exact ⟨c0, c1, c2, rfl⟩
theorem list_5 {α : Type} (l : List α) (h : l.length = 5) : ∃ c0 c1 c2 c3 c4, l = [c0, c1, c2, c3, c4] := by
  match l, h with
  | [c0, c1, c2, c3, c4], _ => exact ⟨c0, c1, c2, c3, c4, rfl⟩
theorem list_6 {α : Type} (l : List α) (h : l.length = 6) : ∃ c0 c1 c2 c3 c4 c5, l = [c0, c1, c2, c3, c4, c5] := by
  match l, h with
  | [c0, c1, c2, c3, c4, c5], _ => exact ⟨c0, c1, c2, c3, c4, c5, rfl⟩
theorem list_8 {α : Type} (l : List α) (h : l.length = 8) : ∃ c0 c1 c2 c3 c4 c5 c6 c7, l = [c0, c1, c2, c3, c4, c5, c6, c7] := by
  match l, h with
  | [c0, c1, c2, c3, c4, c5, c6, c7], _ => exact ⟨c0, c1, c2, c3, c4, c5, c6, c7, rfl⟩
theorem cells_3 : Try.prog.cellsOf 3 = 1 := by kernel_rfl
theorem cells_4 : Try.prog.cellsOf 4 = 1 := by kernel_rfl
theorem cells_23 : Try.prog.cellsOf 23 = 1 := by kernel_rfl
theorem cells_24 : Try.prog.cellsOf 24 = 1 := by kernel_rfl
theorem cells_26 : Try.prog.cellsOf 26 = 5 := by kernel_rfl
theorem cells_36 : Try.prog.cellsOf 36 = 1 := by kernel_rfl
theorem cells_38 : Try.prog.cellsOf 38 = 1 := by kernel_rfl
theorem cells_40 : Try.prog.cellsOf 40 = 2 := by kernel_rfl
theorem cells_62 : Try.prog.cellsOf 62 = 1 := by kernel_rfl
theorem cells_63 : Try.prog.cellsOf 63 = 1 := by kernel_rfl
theorem cells_64 : Try.prog.cellsOf 64 = 1 := by kernel_rfl
theorem cells_66 : Try.prog.cellsOf 66 = 8 := by kernel_rfl
theorem cells_131 : Try.prog.cellsOf 131 = 6 := by kernel_rfl
theorem cells_136 : Try.prog.cellsOf 136 = 2 := by kernel_rfl
theorem cells_140 : Try.prog.cellsOf 140 = 1 := by kernel_rfl
theorem cells_142 : Try.prog.cellsOf 142 = 3 := by kernel_rfl
theorem cells_154 : Try.prog.cellsOf 154 = 1 := by kernel_rfl
theorem cells_156 : Try.prog.cellsOf 156 = 2 := by kernel_rfl
theorem cells_159 : Try.prog.cellsOf 159 = 8 := by kernel_rfl
theorem cells_182 : Try.prog.cellsOf 182 = 5 := by kernel_rfl
def wf_laws_Val (x : S_laws_Val) : Prop := In64 x.f0 ∧ In64 x.f1
set_option maxHeartbeats 1000000 in
theorem opens_laws_Val : Opens k_laws_Val wf_laws_Val 136 := by
  intro H enc w base spare held fuel cs x h
  obtain ⟨xs, n, -, -, hlen, hxl, hf⟩ := DataW.trod_struct Try.underlying136 h
  rw [cells_136] at hlen
  obtain ⟨c0, c1, rfl⟩ := list_2 cs hlen
  have g0 : DataW.trod enc Try.prog w base spare held n 3 ((List.drop 0 [c0, c1]).take (Try.prog.cellsOf 3)) = xs[0]? := hf 0 _ rfl
  obtain ⟨x0, e0⟩ : ∃ x, xs[0]? = some x := ⟨_, List.getElem?_eq_getElem (by rw [hxl]; decide)⟩
  rw [e0] at g0
  simp only [cells_3, List.drop, List.take] at g0
  obtain ⟨a0, k0, w0⟩ := (opens_i64 Try.underlying3) _ _ _ _ _ _ _ _ _ g0
  have g1 : DataW.trod enc Try.prog w base spare held n 3 ((List.drop 1 [c0, c1]).take (Try.prog.cellsOf 3)) = xs[1]? := hf 1 _ rfl
  obtain ⟨x1, e1⟩ : ∃ x, xs[1]? = some x := ⟨_, List.getElem?_eq_getElem (by rw [hxl]; decide)⟩
  rw [e1] at g1
  simp only [cells_3, List.drop, List.take] at g1
  obtain ⟨a1, k1, w1⟩ := (opens_i64 Try.underlying3) _ _ _ _ _ _ _ _ _ g1
  exact ⟨⟨a0, a1⟩, ⟨[c0], [c1], rfl, k0, k1⟩, ⟨w0, w1⟩⟩
def wf_laws_Call (x : S_laws_Call) : Prop := In64 x.f0 ∧ In64 x.f1 ∧ (x.f2.length ≤ 9223372036854775807 ∧ ∀ y ∈ x.f2, wf_laws_Val y) ∧ (x.f3.length ≤ 9223372036854775807 ∧ ∀ y ∈ x.f3, wf_laws_Val y) ∧ In64 x.f4 ∧ True
set_option maxHeartbeats 1000000 in
theorem opens_laws_Call : Opens k_laws_Call wf_laws_Call 131 := by
  intro H enc w base spare held fuel cs x h
  obtain ⟨xs, n, -, -, hlen, hxl, hf⟩ := DataW.trod_struct Try.underlying131 h
  rw [cells_131] at hlen
  obtain ⟨c0, c1, c2, c3, c4, c5, rfl⟩ := list_6 cs hlen
  have g0 : DataW.trod enc Try.prog w base spare held n 3 ((List.drop 0 [c0, c1, c2, c3, c4, c5]).take (Try.prog.cellsOf 3)) = xs[0]? := hf 0 _ rfl
  obtain ⟨x0, e0⟩ : ∃ x, xs[0]? = some x := ⟨_, List.getElem?_eq_getElem (by rw [hxl]; decide)⟩
  rw [e0] at g0
  simp only [cells_3, List.drop, List.take] at g0
  obtain ⟨a0, k0, w0⟩ := (opens_i64 Try.underlying3) _ _ _ _ _ _ _ _ _ g0
  have g1 : DataW.trod enc Try.prog w base spare held n 3 ((List.drop 1 [c0, c1, c2, c3, c4, c5]).take (Try.prog.cellsOf 3)) = xs[1]? := hf 1 _ rfl
  obtain ⟨x1, e1⟩ : ∃ x, xs[1]? = some x := ⟨_, List.getElem?_eq_getElem (by rw [hxl]; decide)⟩
  rw [e1] at g1
  simp only [cells_3, List.drop, List.take] at g1
  obtain ⟨a1, k1, w1⟩ := (opens_i64 Try.underlying3) _ _ _ _ _ _ _ _ _ g1
  have g2 : DataW.trod enc Try.prog w base spare held n 24 ((List.drop 2 [c0, c1, c2, c3, c4, c5]).take (Try.prog.cellsOf 24)) = xs[2]? := hf 2 _ rfl
  obtain ⟨x2, e2⟩ : ∃ x, xs[2]? = some x := ⟨_, List.getElem?_eq_getElem (by rw [hxl]; decide)⟩
  rw [e2] at g2
  simp only [cells_24, List.drop, List.take] at g2
  obtain ⟨a2, k2, w2⟩ := (opens_slice Try.underlying24 cells_136 opens_laws_Val) _ _ _ _ _ _ _ _ _ g2
  have g3 : DataW.trod enc Try.prog w base spare held n 24 ((List.drop 3 [c0, c1, c2, c3, c4, c5]).take (Try.prog.cellsOf 24)) = xs[3]? := hf 3 _ rfl
  obtain ⟨x3, e3⟩ : ∃ x, xs[3]? = some x := ⟨_, List.getElem?_eq_getElem (by rw [hxl]; decide)⟩
  rw [e3] at g3
  simp only [cells_24, List.drop, List.take] at g3
  obtain ⟨a3, k3, w3⟩ := (opens_slice Try.underlying24 cells_136 opens_laws_Val) _ _ _ _ _ _ _ _ _ g3
  have g4 : DataW.trod enc Try.prog w base spare held n 3 ((List.drop 4 [c0, c1, c2, c3, c4, c5]).take (Try.prog.cellsOf 3)) = xs[4]? := hf 4 _ rfl
  obtain ⟨x4, e4⟩ : ∃ x, xs[4]? = some x := ⟨_, List.getElem?_eq_getElem (by rw [hxl]; decide)⟩
  rw [e4] at g4
  simp only [cells_3, List.drop, List.take] at g4
  obtain ⟨a4, k4, w4⟩ := (opens_i64 Try.underlying3) _ _ _ _ _ _ _ _ _ g4
  have g5 : DataW.trod enc Try.prog w base spare held n 4 ((List.drop 5 [c0, c1, c2, c3, c4, c5]).take (Try.prog.cellsOf 4)) = xs[5]? := hf 5 _ rfl
  obtain ⟨x5, e5⟩ : ∃ x, xs[5]? = some x := ⟨_, List.getElem?_eq_getElem (by rw [hxl]; decide)⟩
  rw [e5] at g5
  simp only [cells_4, List.drop, List.take] at g5
  obtain ⟨a5, k5, w5⟩ := (opens_bool Try.underlying4) _ _ _ _ _ _ _ _ _ g5
  exact ⟨⟨a0, a1, a2, a3, a4, a5⟩, ⟨[c0], [c1, c2, c3, c4, c5], rfl, k0, ⟨[c1], [c2, c3, c4, c5], rfl, k1, ⟨[c2], [c3, c4, c5], rfl, k2, ⟨[c3], [c4, c5], rfl, k3, ⟨[c4], [c5], rfl, k4, k5⟩⟩⟩⟩⟩, ⟨w0, w1, w2, w3, w4, w5⟩⟩
def wf_laws_Heap (x : S_laws_Heap) : Prop := (x.f0.length ≤ 9223372036854775807 ∧ ∀ y ∈ x.f0, wf_laws_Call y) ∧ In64 x.f1 ∧ In64 x.f2 ∧ (x.f3.length ≤ 9223372036854775807 ∧ ∀ y ∈ x.f3, wf_laws_Val y) ∧ In64 x.f4
set_option maxHeartbeats 1000000 in
theorem opens_laws_Heap : Opens k_laws_Heap wf_laws_Heap 26 := by
  intro H enc w base spare held fuel cs x h
  obtain ⟨xs, n, -, -, hlen, hxl, hf⟩ := DataW.trod_struct Try.underlying26 h
  rw [cells_26] at hlen
  obtain ⟨c0, c1, c2, c3, c4, rfl⟩ := list_5 cs hlen
  have g0 : DataW.trod enc Try.prog w base spare held n 23 ((List.drop 0 [c0, c1, c2, c3, c4]).take (Try.prog.cellsOf 23)) = xs[0]? := hf 0 _ rfl
  obtain ⟨x0, e0⟩ : ∃ x, xs[0]? = some x := ⟨_, List.getElem?_eq_getElem (by rw [hxl]; decide)⟩
  rw [e0] at g0
  simp only [cells_23, List.drop, List.take] at g0
  obtain ⟨a0, k0, w0⟩ := (opens_slice Try.underlying23 cells_131 opens_laws_Call) _ _ _ _ _ _ _ _ _ g0
  have g1 : DataW.trod enc Try.prog w base spare held n 3 ((List.drop 1 [c0, c1, c2, c3, c4]).take (Try.prog.cellsOf 3)) = xs[1]? := hf 1 _ rfl
  obtain ⟨x1, e1⟩ : ∃ x, xs[1]? = some x := ⟨_, List.getElem?_eq_getElem (by rw [hxl]; decide)⟩
  rw [e1] at g1
  simp only [cells_3, List.drop, List.take] at g1
  obtain ⟨a1, k1, w1⟩ := (opens_i64 Try.underlying3) _ _ _ _ _ _ _ _ _ g1
  have g2 : DataW.trod enc Try.prog w base spare held n 3 ((List.drop 2 [c0, c1, c2, c3, c4]).take (Try.prog.cellsOf 3)) = xs[2]? := hf 2 _ rfl
  obtain ⟨x2, e2⟩ : ∃ x, xs[2]? = some x := ⟨_, List.getElem?_eq_getElem (by rw [hxl]; decide)⟩
  rw [e2] at g2
  simp only [cells_3, List.drop, List.take] at g2
  obtain ⟨a2, k2, w2⟩ := (opens_i64 Try.underlying3) _ _ _ _ _ _ _ _ _ g2
  have g3 : DataW.trod enc Try.prog w base spare held n 24 ((List.drop 3 [c0, c1, c2, c3, c4]).take (Try.prog.cellsOf 24)) = xs[3]? := hf 3 _ rfl
  obtain ⟨x3, e3⟩ : ∃ x, xs[3]? = some x := ⟨_, List.getElem?_eq_getElem (by rw [hxl]; decide)⟩
  rw [e3] at g3
  simp only [cells_24, List.drop, List.take] at g3
  obtain ⟨a3, k3, w3⟩ := (opens_slice Try.underlying24 cells_136 opens_laws_Val) _ _ _ _ _ _ _ _ _ g3
  have g4 : DataW.trod enc Try.prog w base spare held n 3 ((List.drop 4 [c0, c1, c2, c3, c4]).take (Try.prog.cellsOf 3)) = xs[4]? := hf 4 _ rfl
  obtain ⟨x4, e4⟩ : ∃ x, xs[4]? = some x := ⟨_, List.getElem?_eq_getElem (by rw [hxl]; decide)⟩
  rw [e4] at g4
  simp only [cells_3, List.drop, List.take] at g4
  obtain ⟨a4, k4, w4⟩ := (opens_i64 Try.underlying3) _ _ _ _ _ _ _ _ _ g4
  exact ⟨⟨a0, a1, a2, a3, a4⟩, ⟨[c0], [c1, c2, c3, c4], rfl, k0, ⟨[c1], [c2, c3, c4], rfl, k1, ⟨[c2], [c3, c4], rfl, k2, ⟨[c3], [c4], rfl, k3, k4⟩⟩⟩⟩, ⟨w0, w1, w2, w3, w4⟩⟩
def wf_laws_Op (x : S_laws_Op) : Prop := In64 x.f0 ∧ In64 x.f1
set_option maxHeartbeats 1000000 in
theorem opens_laws_Op : Opens k_laws_Op wf_laws_Op 40 := by
  intro H enc w base spare held fuel cs x h
  obtain ⟨xs, n, -, -, hlen, hxl, hf⟩ := DataW.trod_struct Try.underlying40 h
  rw [cells_40] at hlen
  obtain ⟨c0, c1, rfl⟩ := list_2 cs hlen
  have g0 : DataW.trod enc Try.prog w base spare held n 3 ((List.drop 0 [c0, c1]).take (Try.prog.cellsOf 3)) = xs[0]? := hf 0 _ rfl
  obtain ⟨x0, e0⟩ : ∃ x, xs[0]? = some x := ⟨_, List.getElem?_eq_getElem (by rw [hxl]; decide)⟩
  rw [e0] at g0
  simp only [cells_3, List.drop, List.take] at g0
  obtain ⟨a0, k0, w0⟩ := (opens_i64 Try.underlying3) _ _ _ _ _ _ _ _ _ g0
  have g1 : DataW.trod enc Try.prog w base spare held n 3 ((List.drop 1 [c0, c1]).take (Try.prog.cellsOf 3)) = xs[1]? := hf 1 _ rfl
  obtain ⟨x1, e1⟩ : ∃ x, xs[1]? = some x := ⟨_, List.getElem?_eq_getElem (by rw [hxl]; decide)⟩
  rw [e1] at g1
  simp only [cells_3, List.drop, List.take] at g1
  obtain ⟨a1, k1, w1⟩ := (opens_i64 Try.underlying3) _ _ _ _ _ _ _ _ _ g1
  exact ⟨⟨a0, a1⟩, ⟨[c0], [c1], rfl, k0, k1⟩, ⟨w0, w1⟩⟩
def wf_laws_Method (x : S_laws_Method) : Prop := In64 x.f0 ∧ In64 x.f1 ∧ (x.f2.length ≤ 9223372036854775807 ∧ ∀ y ∈ x.f2, wf_laws_Op y)
set_option maxHeartbeats 1000000 in
theorem opens_laws_Method : Opens k_laws_Method wf_laws_Method 142 := by
  intro H enc w base spare held fuel cs x h
  obtain ⟨xs, n, -, -, hlen, hxl, hf⟩ := DataW.trod_struct Try.underlying142 h
  rw [cells_142] at hlen
  obtain ⟨c0, c1, c2, rfl⟩ := list_3 cs hlen
  have g0 : DataW.trod enc Try.prog w base spare held n 3 ((List.drop 0 [c0, c1, c2]).take (Try.prog.cellsOf 3)) = xs[0]? := hf 0 _ rfl
  obtain ⟨x0, e0⟩ : ∃ x, xs[0]? = some x := ⟨_, List.getElem?_eq_getElem (by rw [hxl]; decide)⟩
  rw [e0] at g0
  simp only [cells_3, List.drop, List.take] at g0
  obtain ⟨a0, k0, w0⟩ := (opens_i64 Try.underlying3) _ _ _ _ _ _ _ _ _ g0
  have g1 : DataW.trod enc Try.prog w base spare held n 3 ((List.drop 1 [c0, c1, c2]).take (Try.prog.cellsOf 3)) = xs[1]? := hf 1 _ rfl
  obtain ⟨x1, e1⟩ : ∃ x, xs[1]? = some x := ⟨_, List.getElem?_eq_getElem (by rw [hxl]; decide)⟩
  rw [e1] at g1
  simp only [cells_3, List.drop, List.take] at g1
  obtain ⟨a1, k1, w1⟩ := (opens_i64 Try.underlying3) _ _ _ _ _ _ _ _ _ g1
  have g2 : DataW.trod enc Try.prog w base spare held n 140 ((List.drop 2 [c0, c1, c2]).take (Try.prog.cellsOf 140)) = xs[2]? := hf 2 _ rfl
  obtain ⟨x2, e2⟩ : ∃ x, xs[2]? = some x := ⟨_, List.getElem?_eq_getElem (by rw [hxl]; decide)⟩
  rw [e2] at g2
  simp only [cells_140, List.drop, List.take] at g2
  obtain ⟨a2, k2, w2⟩ := (opens_slice Try.underlying140 cells_40 opens_laws_Op) _ _ _ _ _ _ _ _ _ g2
  exact ⟨⟨a0, a1, a2⟩, ⟨[c0], [c1, c2], rfl, k0, ⟨[c1], [c2], rfl, k1, k2⟩⟩, ⟨w0, w1, w2⟩⟩
def wf_laws_Prog (x : S_laws_Prog) : Prop := (x.f0.length ≤ 9223372036854775807 ∧ ∀ y ∈ x.f0, wf_laws_Method y)
set_option maxHeartbeats 1000000 in
theorem opens_laws_Prog : Opens k_laws_Prog wf_laws_Prog 38 := by
  intro H enc w base spare held fuel cs x h
  obtain ⟨xs, n, -, -, hlen, hxl, hf⟩ := DataW.trod_struct Try.underlying38 h
  rw [cells_38] at hlen
  obtain ⟨c0, rfl⟩ := list_1 cs hlen
  have g0 : DataW.trod enc Try.prog w base spare held n 36 ((List.drop 0 [c0]).take (Try.prog.cellsOf 36)) = xs[0]? := hf 0 _ rfl
  obtain ⟨x0, e0⟩ : ∃ x, xs[0]? = some x := ⟨_, List.getElem?_eq_getElem (by rw [hxl]; decide)⟩
  rw [e0] at g0
  simp only [cells_36, List.drop, List.take] at g0
  obtain ⟨a0, k0, w0⟩ := (opens_slice Try.underlying36 cells_142 opens_laws_Method) _ _ _ _ _ _ _ _ _ g0
  exact ⟨⟨a0⟩, k0, w0⟩
def wf_laws_Frame (x : S_laws_Frame) : Prop := In64 x.f0 ∧ In64 x.f1 ∧ In64 x.f2 ∧ (x.f3.length ≤ 9223372036854775807 ∧ ∀ y ∈ x.f3, wf_laws_Val y) ∧ (x.f4.length ≤ 9223372036854775807 ∧ ∀ y ∈ x.f4, wf_laws_Val y)
set_option maxHeartbeats 1000000 in
theorem opens_laws_Frame : Opens k_laws_Frame wf_laws_Frame 182 := by
  intro H enc w base spare held fuel cs x h
  obtain ⟨xs, n, -, -, hlen, hxl, hf⟩ := DataW.trod_struct Try.underlying182 h
  rw [cells_182] at hlen
  obtain ⟨c0, c1, c2, c3, c4, rfl⟩ := list_5 cs hlen
  have g0 : DataW.trod enc Try.prog w base spare held n 3 ((List.drop 0 [c0, c1, c2, c3, c4]).take (Try.prog.cellsOf 3)) = xs[0]? := hf 0 _ rfl
  obtain ⟨x0, e0⟩ : ∃ x, xs[0]? = some x := ⟨_, List.getElem?_eq_getElem (by rw [hxl]; decide)⟩
  rw [e0] at g0
  simp only [cells_3, List.drop, List.take] at g0
  obtain ⟨a0, k0, w0⟩ := (opens_i64 Try.underlying3) _ _ _ _ _ _ _ _ _ g0
  have g1 : DataW.trod enc Try.prog w base spare held n 3 ((List.drop 1 [c0, c1, c2, c3, c4]).take (Try.prog.cellsOf 3)) = xs[1]? := hf 1 _ rfl
  obtain ⟨x1, e1⟩ : ∃ x, xs[1]? = some x := ⟨_, List.getElem?_eq_getElem (by rw [hxl]; decide)⟩
  rw [e1] at g1
  simp only [cells_3, List.drop, List.take] at g1
  obtain ⟨a1, k1, w1⟩ := (opens_i64 Try.underlying3) _ _ _ _ _ _ _ _ _ g1
  have g2 : DataW.trod enc Try.prog w base spare held n 3 ((List.drop 2 [c0, c1, c2, c3, c4]).take (Try.prog.cellsOf 3)) = xs[2]? := hf 2 _ rfl
  obtain ⟨x2, e2⟩ : ∃ x, xs[2]? = some x := ⟨_, List.getElem?_eq_getElem (by rw [hxl]; decide)⟩
  rw [e2] at g2
  simp only [cells_3, List.drop, List.take] at g2
  obtain ⟨a2, k2, w2⟩ := (opens_i64 Try.underlying3) _ _ _ _ _ _ _ _ _ g2
  have g3 : DataW.trod enc Try.prog w base spare held n 24 ((List.drop 3 [c0, c1, c2, c3, c4]).take (Try.prog.cellsOf 24)) = xs[3]? := hf 3 _ rfl
  obtain ⟨x3, e3⟩ : ∃ x, xs[3]? = some x := ⟨_, List.getElem?_eq_getElem (by rw [hxl]; decide)⟩
  rw [e3] at g3
  simp only [cells_24, List.drop, List.take] at g3
  obtain ⟨a3, k3, w3⟩ := (opens_slice Try.underlying24 cells_136 opens_laws_Val) _ _ _ _ _ _ _ _ _ g3
  have g4 : DataW.trod enc Try.prog w base spare held n 24 ((List.drop 4 [c0, c1, c2, c3, c4]).take (Try.prog.cellsOf 24)) = xs[4]? := hf 4 _ rfl
  obtain ⟨x4, e4⟩ : ∃ x, xs[4]? = some x := ⟨_, List.getElem?_eq_getElem (by rw [hxl]; decide)⟩
  rw [e4] at g4
  simp only [cells_24, List.drop, List.take] at g4
  obtain ⟨a4, k4, w4⟩ := (opens_slice Try.underlying24 cells_136 opens_laws_Val) _ _ _ _ _ _ _ _ _ g4
  exact ⟨⟨a0, a1, a2, a3, a4⟩, ⟨[c0], [c1, c2, c3, c4], rfl, k0, ⟨[c1], [c2, c3, c4], rfl, k1, ⟨[c2], [c3, c4], rfl, k2, ⟨[c3], [c4], rfl, k3, k4⟩⟩⟩⟩, ⟨w0, w1, w2, w3, w4⟩⟩
def wf_laws_Page (x : S_laws_Page) : Prop := In64 x.f0 ∧ (x.f1.length ≤ 9223372036854775807 ∧ ∀ y ∈ x.f1, wf_laws_Frame y)
set_option maxHeartbeats 1000000 in
theorem opens_laws_Page : Opens k_laws_Page wf_laws_Page 156 := by
  intro H enc w base spare held fuel cs x h
  obtain ⟨xs, n, -, -, hlen, hxl, hf⟩ := DataW.trod_struct Try.underlying156 h
  rw [cells_156] at hlen
  obtain ⟨c0, c1, rfl⟩ := list_2 cs hlen
  have g0 : DataW.trod enc Try.prog w base spare held n 3 ((List.drop 0 [c0, c1]).take (Try.prog.cellsOf 3)) = xs[0]? := hf 0 _ rfl
  obtain ⟨x0, e0⟩ : ∃ x, xs[0]? = some x := ⟨_, List.getElem?_eq_getElem (by rw [hxl]; decide)⟩
  rw [e0] at g0
  simp only [cells_3, List.drop, List.take] at g0
  obtain ⟨a0, k0, w0⟩ := (opens_i64 Try.underlying3) _ _ _ _ _ _ _ _ _ g0
  have g1 : DataW.trod enc Try.prog w base spare held n 154 ((List.drop 1 [c0, c1]).take (Try.prog.cellsOf 154)) = xs[1]? := hf 1 _ rfl
  obtain ⟨x1, e1⟩ : ∃ x, xs[1]? = some x := ⟨_, List.getElem?_eq_getElem (by rw [hxl]; decide)⟩
  rw [e1] at g1
  simp only [cells_154, List.drop, List.take] at g1
  obtain ⟨a1, k1, w1⟩ := (opens_slice Try.underlying154 cells_182 opens_laws_Frame) _ _ _ _ _ _ _ _ _ g1
  exact ⟨⟨a0, a1⟩, ⟨[c0], [c1], rfl, k0, k1⟩, ⟨w0, w1⟩⟩
def wf_laws_Twin (x : S_laws_Twin) : Prop := In64 x.f0 ∧ In64 x.f1 ∧ wf_laws_Call x.f2
set_option maxHeartbeats 1000000 in
theorem opens_laws_Twin : Opens k_laws_Twin wf_laws_Twin 159 := by
  intro H enc w base spare held fuel cs x h
  obtain ⟨xs, n, -, -, hlen, hxl, hf⟩ := DataW.trod_struct Try.underlying159 h
  rw [cells_159] at hlen
  obtain ⟨c0, c1, c2, c3, c4, c5, c6, c7, rfl⟩ := list_8 cs hlen
  have g0 : DataW.trod enc Try.prog w base spare held n 3 ((List.drop 0 [c0, c1, c2, c3, c4, c5, c6, c7]).take (Try.prog.cellsOf 3)) = xs[0]? := hf 0 _ rfl
  obtain ⟨x0, e0⟩ : ∃ x, xs[0]? = some x := ⟨_, List.getElem?_eq_getElem (by rw [hxl]; decide)⟩
  rw [e0] at g0
  simp only [cells_3, List.drop, List.take] at g0
  obtain ⟨a0, k0, w0⟩ := (opens_i64 Try.underlying3) _ _ _ _ _ _ _ _ _ g0
  have g1 : DataW.trod enc Try.prog w base spare held n 3 ((List.drop 1 [c0, c1, c2, c3, c4, c5, c6, c7]).take (Try.prog.cellsOf 3)) = xs[1]? := hf 1 _ rfl
  obtain ⟨x1, e1⟩ : ∃ x, xs[1]? = some x := ⟨_, List.getElem?_eq_getElem (by rw [hxl]; decide)⟩
  rw [e1] at g1
  simp only [cells_3, List.drop, List.take] at g1
  obtain ⟨a1, k1, w1⟩ := (opens_i64 Try.underlying3) _ _ _ _ _ _ _ _ _ g1
  have g2 : DataW.trod enc Try.prog w base spare held n 131 ((List.drop 2 [c0, c1, c2, c3, c4, c5, c6, c7]).take (Try.prog.cellsOf 131)) = xs[2]? := hf 2 _ rfl
  obtain ⟨x2, e2⟩ : ∃ x, xs[2]? = some x := ⟨_, List.getElem?_eq_getElem (by rw [hxl]; decide)⟩
  rw [e2] at g2
  simp only [cells_131, List.drop, List.take] at g2
  obtain ⟨a2, k2, w2⟩ := opens_laws_Call _ _ _ _ _ _ _ _ _ g2
  exact ⟨⟨a0, a1, a2⟩, ⟨[c0], [c1, c2, c3, c4, c5, c6, c7], rfl, k0, ⟨[c1], [c2, c3, c4, c5, c6, c7], rfl, k1, k2⟩⟩, ⟨w0, w1, w2⟩⟩
def wf_laws_Mach (x : S_laws_Mach) : Prop := In64 x.f0 ∧ (x.f1.length ≤ 9223372036854775807 ∧ ∀ y ∈ x.f1, wf_laws_Page y) ∧ (x.f2.length ≤ 9223372036854775807 ∧ ∀ y ∈ x.f2, In64 y) ∧ In64 x.f3 ∧ (x.f4.length ≤ 9223372036854775807 ∧ ∀ y ∈ x.f4, wf_laws_Twin y) ∧ In64 x.f5 ∧ (x.f6.length ≤ 9223372036854775807 ∧ ∀ y ∈ x.f6, wf_laws_Val y) ∧ In64 x.f7
set_option maxHeartbeats 1000000 in
theorem opens_laws_Mach : Opens k_laws_Mach wf_laws_Mach 66 := by
  intro H enc w base spare held fuel cs x h
  obtain ⟨xs, n, -, -, hlen, hxl, hf⟩ := DataW.trod_struct Try.underlying66 h
  rw [cells_66] at hlen
  obtain ⟨c0, c1, c2, c3, c4, c5, c6, c7, rfl⟩ := list_8 cs hlen
  have g0 : DataW.trod enc Try.prog w base spare held n 3 ((List.drop 0 [c0, c1, c2, c3, c4, c5, c6, c7]).take (Try.prog.cellsOf 3)) = xs[0]? := hf 0 _ rfl
  obtain ⟨x0, e0⟩ : ∃ x, xs[0]? = some x := ⟨_, List.getElem?_eq_getElem (by rw [hxl]; decide)⟩
  rw [e0] at g0
  simp only [cells_3, List.drop, List.take] at g0
  obtain ⟨a0, k0, w0⟩ := (opens_i64 Try.underlying3) _ _ _ _ _ _ _ _ _ g0
  have g1 : DataW.trod enc Try.prog w base spare held n 62 ((List.drop 1 [c0, c1, c2, c3, c4, c5, c6, c7]).take (Try.prog.cellsOf 62)) = xs[1]? := hf 1 _ rfl
  obtain ⟨x1, e1⟩ : ∃ x, xs[1]? = some x := ⟨_, List.getElem?_eq_getElem (by rw [hxl]; decide)⟩
  rw [e1] at g1
  simp only [cells_62, List.drop, List.take] at g1
  obtain ⟨a1, k1, w1⟩ := (opens_slice Try.underlying62 cells_156 opens_laws_Page) _ _ _ _ _ _ _ _ _ g1
  have g2 : DataW.trod enc Try.prog w base spare held n 63 ((List.drop 2 [c0, c1, c2, c3, c4, c5, c6, c7]).take (Try.prog.cellsOf 63)) = xs[2]? := hf 2 _ rfl
  obtain ⟨x2, e2⟩ : ∃ x, xs[2]? = some x := ⟨_, List.getElem?_eq_getElem (by rw [hxl]; decide)⟩
  rw [e2] at g2
  simp only [cells_63, List.drop, List.take] at g2
  obtain ⟨a2, k2, w2⟩ := (opens_slice Try.underlying63 cells_3 (opens_i64 Try.underlying3)) _ _ _ _ _ _ _ _ _ g2
  have g3 : DataW.trod enc Try.prog w base spare held n 3 ((List.drop 3 [c0, c1, c2, c3, c4, c5, c6, c7]).take (Try.prog.cellsOf 3)) = xs[3]? := hf 3 _ rfl
  obtain ⟨x3, e3⟩ : ∃ x, xs[3]? = some x := ⟨_, List.getElem?_eq_getElem (by rw [hxl]; decide)⟩
  rw [e3] at g3
  simp only [cells_3, List.drop, List.take] at g3
  obtain ⟨a3, k3, w3⟩ := (opens_i64 Try.underlying3) _ _ _ _ _ _ _ _ _ g3
  have g4 : DataW.trod enc Try.prog w base spare held n 64 ((List.drop 4 [c0, c1, c2, c3, c4, c5, c6, c7]).take (Try.prog.cellsOf 64)) = xs[4]? := hf 4 _ rfl
  obtain ⟨x4, e4⟩ : ∃ x, xs[4]? = some x := ⟨_, List.getElem?_eq_getElem (by rw [hxl]; decide)⟩
  rw [e4] at g4
  simp only [cells_64, List.drop, List.take] at g4
  obtain ⟨a4, k4, w4⟩ := (opens_slice Try.underlying64 cells_159 opens_laws_Twin) _ _ _ _ _ _ _ _ _ g4
  have g5 : DataW.trod enc Try.prog w base spare held n 3 ((List.drop 5 [c0, c1, c2, c3, c4, c5, c6, c7]).take (Try.prog.cellsOf 3)) = xs[5]? := hf 5 _ rfl
  obtain ⟨x5, e5⟩ : ∃ x, xs[5]? = some x := ⟨_, List.getElem?_eq_getElem (by rw [hxl]; decide)⟩
  rw [e5] at g5
  simp only [cells_3, List.drop, List.take] at g5
  obtain ⟨a5, k5, w5⟩ := (opens_i64 Try.underlying3) _ _ _ _ _ _ _ _ _ g5
  have g6 : DataW.trod enc Try.prog w base spare held n 24 ((List.drop 6 [c0, c1, c2, c3, c4, c5, c6, c7]).take (Try.prog.cellsOf 24)) = xs[6]? := hf 6 _ rfl
  obtain ⟨x6, e6⟩ : ∃ x, xs[6]? = some x := ⟨_, List.getElem?_eq_getElem (by rw [hxl]; decide)⟩
  rw [e6] at g6
  simp only [cells_24, List.drop, List.take] at g6
  obtain ⟨a6, k6, w6⟩ := (opens_slice Try.underlying24 cells_136 opens_laws_Val) _ _ _ _ _ _ _ _ _ g6
  have g7 : DataW.trod enc Try.prog w base spare held n 3 ((List.drop 7 [c0, c1, c2, c3, c4, c5, c6, c7]).take (Try.prog.cellsOf 3)) = xs[7]? := hf 7 _ rfl
  obtain ⟨x7, e7⟩ : ∃ x, xs[7]? = some x := ⟨_, List.getElem?_eq_getElem (by rw [hxl]; decide)⟩
  rw [e7] at g7
  simp only [cells_3, List.drop, List.take] at g7
  obtain ⟨a7, k7, w7⟩ := (opens_i64 Try.underlying3) _ _ _ _ _ _ _ _ _ g7
  exact ⟨⟨a0, a1, a2, a3, a4, a5, a6, a7⟩, ⟨[c0], [c1, c2, c3, c4, c5, c6, c7], rfl, k0, ⟨[c1], [c2, c3, c4, c5, c6, c7], rfl, k1, ⟨[c2], [c3, c4, c5, c6, c7], rfl, k2, ⟨[c3], [c4, c5, c6, c7], rfl, k3, ⟨[c4], [c5, c6, c7], rfl, k4, ⟨[c5], [c6, c7], rfl, k5, ⟨[c6], [c7], rfl, k6, k7⟩⟩⟩⟩⟩⟩⟩, ⟨w0, w1, w2, w3, w4, w5, w6, w7⟩⟩
end Go.Proofs.Ytcllkemhlhbdgaa.G
namespace Go.Proofs.Ytcllkemhlhbdgaa.G
open Go.RowKit Go.Proofs.YtcllkemhlhbdgaaW.PrintWords Go.Proofs.YtcllkemhlhbdgaaW.PrintLast
theorem w64 {x : Int} (h0 : -9223372036854775808 ≤ x) (h1 : x ≤ 9223372036854775807) : wrap64 x = x := by unfold wrap64; omega
theorem Ev.const {α : Type} {g : Option α} {r : α} (h : g = some r) : Ev (fun _ => g) r := ⟨0, fun _ _ => h⟩
theorem Ev.ifp {α : Type} {c : Prop} [Decidable c] {f g : Nat → Option α} {r : α} (h : c) (k : Ev f r) : Ev (fun n => if c then f n else g n) r := by
  obtain ⟨K, hK⟩ := k
  exact ⟨K, fun n hn => by show (if c then f n else g n) = _; rw [if_pos h]; exact hK n hn⟩
theorem Ev.ifn {α : Type} {c : Prop} [Decidable c] {f g : Nat → Option α} {r : α} (h : ¬ c) (k : Ev g r) : Ev (fun n => if c then f n else g n) r := by
  obtain ⟨K, hK⟩ := k
  exact ⟨K, fun n hn => by show (if c then f n else g n) = _; rw [if_neg h]; exact hK n hn⟩
theorem Ev.bindc {α β : Type} {g : Option α} {f : Nat → α → Option β} {a : α} {r : β} (h : g = some a) (k : Ev (fun n => f n a) r) : Ev (fun n => g.bind (f n)) r := by
  subst h
  exact k
theorem Ev.bnd {α β : Type} {g : Nat → Option α} {f : Nat → α → Option β} {a : α} {r : β} (h : Ev g a) (k : Ev (fun n => f n a) r) : Ev (fun n => (g n).bind (f n)) r := Ev.bind h k
theorem Ev.unique {α : Type} {g : Nat → Option α} {r s : α} (h : Ev g r) (k : Ev g s) : r = s := by
  obtain ⟨K, hK⟩ := h
  obtain ⟨L, hL⟩ := k
  have a := hK (K + L) (by omega)
  have b := hL (K + L) (by omega)
  rw [a] at b
  exact Option.some.inj b
theorem ev_for {σ ρ : Type} (L : Nat → Int → σ → Option ρ) (n : Nat) (Inv : Nat → σ → Prop) (Post : ρ → Prop)
    (hstep : ∀ (i : Nat) s, i < n → Inv i s → (∃ r, Post r ∧ Ev (fun k => L k i s) r) ∨ ∃ s', Inv (i + 1) s' ∧ ∀ r, Ev (fun k => L k ((i : Int) + 1) s') r → Ev (fun k => L k i s) r)
    (hend : ∀ s, Inv n s → ∃ r, Post r ∧ Ev (fun k => L k n s) r) : ∀ (d i : Nat) s, n - i = d → i ≤ n → Inv i s → ∃ r, Post r ∧ Ev (fun k => L k i s) r := by
  intro d
  induction d with
  | zero =>
    intro i s hd hi hI
    obtain rfl : i = n := by omega
    exact hend s hI
  | succ d ih =>
    intro i s hd hi hI
    rcases hstep i s (by omega) hI with h | ⟨s', hI', hk⟩
    · exact h
    · obtain ⟨r, hp, hr⟩ := ih (i + 1) s' (by omega) (by omega) hI'
      exact ⟨r, hp, hk r (by have : ((i + 1 : Nat) : Int) = (i : Int) + 1 := by omega
                             rw [← this]; exact hr)⟩
theorem ev_for0 {σ ρ : Type} (L : Nat → Int → σ → Option ρ) (n : Nat) (Inv : Nat → σ → Prop) (Post : ρ → Prop)
    (hstep : ∀ (i : Nat) s, i < n → Inv i s → (∃ r, Post r ∧ Ev (fun k => L k i s) r) ∨ ∃ s', Inv (i + 1) s' ∧ ∀ r, Ev (fun k => L k ((i : Int) + 1) s') r → Ev (fun k => L k i s) r)
    (hend : ∀ s, Inv n s → ∃ r, Post r ∧ Ev (fun k => L k n s) r) (s : σ) (h : Inv 0 s) : ∃ r, Post r ∧ Ev (fun k => L k 0 s) r :=
  ev_for L n Inv Post hstep hend n 0 s (by omega) (by omega) h
theorem ev_map {α β : Type} (L : Nat → List β → Int → Option (List β)) (x : List α) (g : α → β) (z : β)
    (hstep : ∀ (i : Nat) (hi : i < x.length) (ys : List β), ys.length = x.length → ∀ r, Ev (fun k => L k (ys.set i (g x[i])) ((i : Int) + 1)) r → Ev (fun k => L k ys i) r)
    (hend : ∀ ys, ys.length = x.length → Ev (fun k => L k ys x.length) ys) : Ev (fun k => L k (List.replicate x.length z) 0) (x.map g) := by
  obtain ⟨r, rfl, hr⟩ := ev_for0 (σ := List β) (fun k i s => L k s i) x.length (fun i s => s.length = x.length ∧ ∀ (j : Nat) (hj : j < x.length), j < i → s[j]? = some (g x[j])) (fun r => r = x.map g)
    (fun i s hi ⟨hl, hs⟩ => .inr ⟨s.set i (g x[i]), ⟨by simpa using hl, fun j hj hji => by
      by_cases e : j = i
      · subst e
        rw [List.getElem?_set_self (by omega)]
      · rw [List.getElem?_set_ne (by omega)]
        exact hs j hj (by omega)⟩, fun r hr => hstep i hi s hl r hr⟩)
    (fun s ⟨hl, hs⟩ => ⟨s, by
      apply List.ext_getElem?
      intro j
      by_cases hj : j < x.length
      · rw [hs j hj hj]
        simp [hj]
      · rw [List.getElem?_eq_none (by omega), List.getElem?_eq_none (by simp; omega)], hend s hl⟩)
    (List.replicate x.length z) ⟨by simp, fun j hj h => absurd h (Nat.not_lt_zero _)⟩
  exact hr
theorem ev_all {ρ : Type} (L : Nat → Int → Option ρ) (n : Nat) (r : ρ) (hstep : ∀ (i : Nat), i < n → ∀ r, Ev (fun k => L k ((i : Int) + 1)) r → Ev (fun k => L k i) r) (hend : Ev (fun k => L k n) r) : Ev (fun k => L k 0) r := by
  obtain ⟨r', rfl, hr⟩ := ev_for0 (σ := Unit) (fun k i _ => L k i) n (fun _ _ => True) (fun r' => r' = r) (fun i _ hi _ => .inr ⟨(), trivial, fun r hr => hstep i hi r hr⟩) (fun _ _ => ⟨r, rfl, hend⟩) () trivial
  exact hr
theorem rdget {α : Type} {l : List α} {i : Nat} {d : α} (h : i < l.length) : l.getD (i : Int).toNat d = l[i] := by
  rw [Int.toNat_natCast, List.getD_eq_getElem?_getD, List.getElem?_eq_getElem h]
  rfl
end Go.Proofs.Ytcllkemhlhbdgaa.G
