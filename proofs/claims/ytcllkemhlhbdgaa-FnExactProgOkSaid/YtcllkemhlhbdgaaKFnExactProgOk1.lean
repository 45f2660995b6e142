import Derived.Test.YtcllkemhlhbdgaaProg
import Derived.Below
import Derived.Deep.Draws
import Derived.Deep.AppendLies
import Derived.Maps.AppendAt
import Derived.OwnWalk
import Derived.Laws.BytesArg
import Derived.Laws.MakeOwn
import Derived.Laws.OwnMore
import Derived.Deep.OwnRows
import Derived.Tactics
import Derived.Lib.ConvBytes
import Derived.Laws.Slices
import Derived.WalkKit
import Derived.KernelRfl
import Derived.RowKit3
import Derived.Deep.LoopGhost
import Derived.Deep.QuietTactic
import Derived.BigQuiet
import Derived.WideLaws
import Derived.Deep.DeepCutAuto
import Derived.Deep.CutBlock
import Derived.Deep.RegionHeld3
import Derived.Laws.Rows
import Derived.Lib.AppendStr
import Derived.ArgAppend
import Derived.Laws.IdiomCopy
import Derived.OrdersHeld
import Derived.Laws.BitsLemmas
import Derived.RowKit
import Derived.Test.YtcllkemhlhbdgaaKFnExactProgOk0
import Derived.Shelf.Abstract
import Derived.Laws.EntriesVeiled
import Derived.IntWalk
namespace Go.Proofs.Ytcllkemhlhbdgaa.G
open Go.RowKit Go.Proofs.YtcllkemhlhbdgaaW.PrintWords Go.Proofs.YtcllkemhlhbdgaaW.PrintLast Go.Proofs.YtcllkemhlhbdgaaW.PrintMore
attribute [local go_sem] max2_int min2_int max_two min_two max_three min_three max_four min_four
set_option linter.unusedVariables false
set_option linter.unusedSimpArgs false
def errW : Option Int → Value
  | none => .nilIface
  | some c => .iface 0 (.int .i64 c)
theorem errW_none : errW none = .nilIface := rfl
theorem errW_some (c : Int) : errW (some c) = .iface 0 (.int .i64 c) := rfl
theorem info3 : (Try.prog.info? 3).map (fun i => (i.zero, i.size, i.bytes)) = some (some (.int .i64 0), 1, 8) := by kernel_rfl
theorem info5 : (Try.prog.info? 5).map (fun i => (i.zero, i.size, i.bytes)) = some (some (.int .u8 0), 1, 1) := by kernel_rfl
theorem info48 : (Try.prog.info? 48).map (fun i => (i.zero, i.size, i.bytes)) = some (some (.agg #[(.int .i64 0), (.int .i64 0)]), 2, 16) := by kernel_rfl
theorem info59 : (Try.prog.info? 59).map (fun i => (i.zero, i.size, i.bytes)) = some (some (.agg #[(.int .i64 0), (.int .i64 0), (.slice none 0 0)]), 3, 40) := by kernel_rfl
theorem info90 : (Try.prog.info? 90).map (fun i => (i.zero, i.size, i.bytes)) = some (some (.agg #[(.int .i64 0), (.int .i64 0), (.slice none 0 0), (.slice none 0 0), (.int .i64 0), (.bool false)]), 6, 80) := by kernel_rfl
theorem info116 : (Try.prog.info? 116).map (fun i => (i.zero, i.size, i.bytes)) = some (some (.agg #[(.int .i64 0), (.slice none 0 0)]), 2, 32) := by kernel_rfl
theorem info123 : (Try.prog.info? 123).map (fun i => (i.zero, i.size, i.bytes)) = some (some (.agg #[(.int .i64 0), (.int .i64 0), (.int .i64 0), (.int .i64 0), (.slice none 0 0), (.slice none 0 0), (.int .i64 0), (.bool false)]), 8, 96) := by kernel_rfl
theorem info134 : (Try.prog.info? 134).map (fun i => (i.zero, i.size, i.bytes)) = some (some (.agg #[(.int .i64 0), (.int .i64 0)]), 2, 16) := by kernel_rfl
theorem info184 : (Try.prog.info? 184).map (fun i => (i.zero, i.size, i.bytes)) = some (some (.agg #[(.int .i64 0), (.int .i64 0), (.int .i64 0), (.slice none 0 0), (.slice none 0 0)]), 5, 72) := by kernel_rfl
structure S_laws_Val where
  f0 : Int
  f1 : Int
def z_laws_Val : S_laws_Val := ⟨(0 : Int), (0 : Int)⟩
def k_laws_Val : Kd S_laws_Val := Kd.iso (Kd.pair (Kd.int .i64) (Kd.int .i64)) (fun x : S_laws_Val => (x.f0, x.f1))
theorem k_laws_Val_open {w : World} {x : S_laws_Val} {cs : List Value} (h : k_laws_Val.K w x cs) : cs = [.int .i64 x.f0, .int .i64 x.f1] := by
  obtain ⟨_, _, rfl, rfl, rfl⟩ := h
  exact rfl
theorem k_laws_Val_openM {w : World} {base : Nat} {ok : Nat → Prop} {x : S_laws_Val} {cs : List Value} (h : k_laws_Val.M w base ok x cs) : cs = [.int .i64 x.f0, .int .i64 x.f1] := by
  obtain ⟨_, _, rfl, rfl, rfl⟩ := h
  exact rfl
theorem k_laws_Val_mk (w : World) (x : S_laws_Val)  : k_laws_Val.K w x [.int .i64 x.f0, .int .i64 x.f1] := ⟨[.int .i64 x.f0], [.int .i64 x.f1], rfl, rfl, rfl⟩
theorem k_laws_Val_mkM (w : World) (base : Nat) (ok : Nat → Prop) (x : S_laws_Val)  : k_laws_Val.M w base ok x [.int .i64 x.f0, .int .i64 x.f1] := ⟨[.int .i64 x.f0], [.int .i64 x.f1], rfl, rfl, rfl⟩
theorem k_laws_Val_mkF (W : World) (ok : Nat → Prop) (x : S_laws_Val) : Kd.FK k_laws_Val W ok x [.int .i64 x.f0, .int .i64 x.f1] := fun W2 _ => k_laws_Val_mk W2 x
def rd_laws_Val (xs : List S_laws_Val) (i : Int) : S_laws_Val := xs.getD i.toNat z_laws_Val
theorem at_laws_Val {w : World} {A : Option Addr} {n : Nat} {xs : List S_laws_Val} (h : Kd.C k_laws_Val w A n xs) (i : Int) (h0 : 0 ≤ i) (h1 : i < n) : ∃ ad , A = some ad ∧ w.cell? (ad.add (i.toNat * 2)) = some (.int .i64 (rd_laws_Val xs i).f0) ∧ w.cell? ⟨(ad.add (i.toNat * 2)).block, (ad.add (i.toNat * 2)).off + 1, none⟩ = some (.int .i64 (rd_laws_Val xs i).f1) := by
  obtain ⟨ad, c, e, _, hK, hc0⟩ := Kd.C_get h z_laws_Val i h0 h1
  have hc : ∀ j u, c[j]? = some u → w.cell? (ad.add (i.toNat * 2 + j)) = some u := hc0
  obtain rfl := k_laws_Val_open hK
  exact ⟨ad, e, hc 0 _ rfl, by rw [← add_field _ _ 1 (by omega)]; exact hc 1 _ rfl⟩
def rdl_s_laws_Val (xs : List (List S_laws_Val)) (i : Int) : (List S_laws_Val) := xs.getD i.toNat ([] : List S_laws_Val)
theorem atl_s_laws_Val {w : World} {A : Option Addr} {n : Nat} {xs : List (List S_laws_Val)} (h : Kd.C (Kd.slice 136 k_laws_Val) w A n xs) (i : Int) (h0 : 0 ≤ i) (h1 : i < n) : ∃ ad A0 c0, A = some ad ∧ w.cell? (ad.add i.toNat) = some (.slice A0 (rdl_s_laws_Val xs i).length c0) ∧ (rdl_s_laws_Val xs i).length ≤ c0 ∧ k_laws_Val.C w A0 (rdl_s_laws_Val xs i).length (rdl_s_laws_Val xs i) := by
  obtain ⟨ad, c, e, _, hK, hc0⟩ := Kd.C_get h ([] : List S_laws_Val) i h0 h1
  have hc : ∀ j u, c[j]? = some u → w.cell? (ad.add (i.toNat * 1 + j)) = some u := hc0
  obtain ⟨A0, c0, rfl, l0, g0⟩ := hK
  exact ⟨ad, A0, c0, e, by have hq := hc 0 _ rfl; rwa [Nat.mul_one, Nat.add_zero] at hq, l0, g0⟩
structure S_laws_Call where
  f0 : Int
  f1 : Int
  f2 : (List S_laws_Val)
  f3 : (List S_laws_Val)
  f4 : Int
  f5 : Bool
def z_laws_Call : S_laws_Call := ⟨(0 : Int), (0 : Int), ([] : List S_laws_Val), ([] : List S_laws_Val), (0 : Int), false⟩
def k_laws_Call : Kd S_laws_Call := Kd.iso (Kd.pair (Kd.int .i64) (Kd.pair (Kd.int .i64) (Kd.pair (Kd.slice 136 k_laws_Val) (Kd.pair (Kd.slice 136 k_laws_Val) (Kd.pair (Kd.int .i64) Kd.bool))))) (fun x : S_laws_Call => (x.f0, x.f1, x.f2, x.f3, x.f4, x.f5))
theorem k_laws_Call_open {w : World} {x : S_laws_Call} {cs : List Value} (h : k_laws_Call.K w x cs) : ∃ A2 c2 A3 c3, cs = [.int .i64 x.f0, .int .i64 x.f1, .slice A2 x.f2.length c2, .slice A3 x.f3.length c3, .int .i64 x.f4, .bool x.f5] ∧ x.f2.length ≤ c2 ∧ k_laws_Val.C w A2 x.f2.length x.f2 ∧ x.f3.length ≤ c3 ∧ k_laws_Val.C w A3 x.f3.length x.f3 := by
  obtain ⟨_, _, rfl, rfl, ⟨_, _, rfl, rfl, ⟨_, _, rfl, ⟨A2, c2, rfl, l2, g2⟩, ⟨_, _, rfl, ⟨A3, c3, rfl, l3, g3⟩, ⟨_, _, rfl, rfl, rfl⟩⟩⟩⟩⟩ := h
  exact ⟨A2, c2, A3, c3, rfl, l2, g2, l3, g3⟩
theorem k_laws_Call_openM {w : World} {base : Nat} {ok : Nat → Prop} {x : S_laws_Call} {cs : List Value} (h : k_laws_Call.M w base ok x cs) : ∃ v2 v3, cs = [.int .i64 x.f0, .int .i64 x.f1, v2, v3, .int .i64 x.f4, .bool x.f5] ∧ k_laws_Val.R 136 w base ok v2 x.f2 ∧ k_laws_Val.R 136 w base ok v3 x.f3 := by
  obtain ⟨_, _, rfl, rfl, ⟨_, _, rfl, rfl, ⟨_, _, rfl, ⟨v2, rfl, g2⟩, ⟨_, _, rfl, ⟨v3, rfl, g3⟩, ⟨_, _, rfl, rfl, rfl⟩⟩⟩⟩⟩ := h
  exact ⟨v2, v3, rfl, g2, g3⟩
theorem k_laws_Call_mk (w : World) (x : S_laws_Call) {A2 : Option Addr} {c2 : Nat} (l2 : x.f2.length ≤ c2) (g2 : k_laws_Val.C w A2 x.f2.length x.f2) {A3 : Option Addr} {c3 : Nat} (l3 : x.f3.length ≤ c3) (g3 : k_laws_Val.C w A3 x.f3.length x.f3) : k_laws_Call.K w x [.int .i64 x.f0, .int .i64 x.f1, .slice A2 x.f2.length c2, .slice A3 x.f3.length c3, .int .i64 x.f4, .bool x.f5] := ⟨[.int .i64 x.f0], [.int .i64 x.f1, .slice A2 x.f2.length c2, .slice A3 x.f3.length c3, .int .i64 x.f4, .bool x.f5], rfl, rfl, ⟨[.int .i64 x.f1], [.slice A2 x.f2.length c2, .slice A3 x.f3.length c3, .int .i64 x.f4, .bool x.f5], rfl, rfl, ⟨[.slice A2 x.f2.length c2], [.slice A3 x.f3.length c3, .int .i64 x.f4, .bool x.f5], rfl, ⟨A2, c2, rfl, l2, g2⟩, ⟨[.slice A3 x.f3.length c3], [.int .i64 x.f4, .bool x.f5], rfl, ⟨A3, c3, rfl, l3, g3⟩, ⟨[.int .i64 x.f4], [.bool x.f5], rfl, rfl, rfl⟩⟩⟩⟩⟩
theorem k_laws_Call_mkM (w : World) (base : Nat) (ok : Nat → Prop) (x : S_laws_Call) {v2 : Value} (g2 : k_laws_Val.R 136 w base ok v2 x.f2) {v3 : Value} (g3 : k_laws_Val.R 136 w base ok v3 x.f3) : k_laws_Call.M w base ok x [.int .i64 x.f0, .int .i64 x.f1, v2, v3, .int .i64 x.f4, .bool x.f5] := ⟨[.int .i64 x.f0], [.int .i64 x.f1, v2, v3, .int .i64 x.f4, .bool x.f5], rfl, rfl, ⟨[.int .i64 x.f1], [v2, v3, .int .i64 x.f4, .bool x.f5], rfl, rfl, ⟨[v2], [v3, .int .i64 x.f4, .bool x.f5], rfl, ⟨v2, rfl, g2⟩, ⟨[v3], [.int .i64 x.f4, .bool x.f5], rfl, ⟨v3, rfl, g3⟩, ⟨[.int .i64 x.f4], [.bool x.f5], rfl, rfl, rfl⟩⟩⟩⟩⟩
theorem k_laws_Call_openF {W : World} {ok : Nat → Prop} {x : S_laws_Call} {cs : List Value} (h : Kd.FK k_laws_Call W ok x cs) : ∃ A2 c2 A3 c3, cs = [.int .i64 x.f0, .int .i64 x.f1, .slice A2 x.f2.length c2, .slice A3 x.f3.length c3, .int .i64 x.f4, .bool x.f5] ∧ x.f2.length ≤ c2 ∧ Kd.F k_laws_Val W ok A2 x.f2.length x.f2 ∧ x.f3.length ≤ c3 ∧ Kd.F k_laws_Val W ok A3 x.f3.length x.f3 := by
  obtain ⟨A2, c2, A3, c3, rfl, l2, _, l3, _⟩ := k_laws_Call_open (Kd.FK_now h)
  exact ⟨A2, c2, A3, c3, rfl, l2, (fun W' hW => by obtain ⟨A2_, c2_, A3_, c3_, he, l2_, g2_, l3_, g3_⟩ := k_laws_Call_open (h W' hW); injection (Option.some.inj (show some (Value.slice A2 x.f2.length c2) = some (Value.slice A2_ x.f2.length c2_) from congrArg (fun l => l[2]?) he)) with ha_ _ _; rw [ha_]; exact g2_), l3, (fun W' hW => by obtain ⟨A2_, c2_, A3_, c3_, he, l2_, g2_, l3_, g3_⟩ := k_laws_Call_open (h W' hW); injection (Option.some.inj (show some (Value.slice A3 x.f3.length c3) = some (Value.slice A3_ x.f3.length c3_) from congrArg (fun l => l[3]?) he)) with ha_ _ _; rw [ha_]; exact g3_)⟩
theorem k_laws_Call_mkF (W : World) (ok : Nat → Prop) (x : S_laws_Call) {A2 : Option Addr} {c2 : Nat} (l2 : x.f2.length ≤ c2) (g2 : Kd.F k_laws_Val W ok A2 x.f2.length x.f2) {A3 : Option Addr} {c3 : Nat} (l3 : x.f3.length ≤ c3) (g3 : Kd.F k_laws_Val W ok A3 x.f3.length x.f3) : Kd.FK k_laws_Call W ok x [.int .i64 x.f0, .int .i64 x.f1, .slice A2 x.f2.length c2, .slice A3 x.f3.length c3, .int .i64 x.f4, .bool x.f5] := fun W2 hW => k_laws_Call_mk W2 x l2 (g2 W2 hW) l3 (g3 W2 hW)
def rd_laws_Call (xs : List S_laws_Call) (i : Int) : S_laws_Call := xs.getD i.toNat z_laws_Call
theorem at_laws_Call {w : World} {A : Option Addr} {n : Nat} {xs : List S_laws_Call} (h : Kd.C k_laws_Call w A n xs) (i : Int) (h0 : 0 ≤ i) (h1 : i < n) : ∃ ad A2 c2 A3 c3, A = some ad ∧ w.cell? (ad.add (i.toNat * 6)) = some (.int .i64 (rd_laws_Call xs i).f0) ∧ w.cell? ⟨(ad.add (i.toNat * 6)).block, (ad.add (i.toNat * 6)).off + 1, none⟩ = some (.int .i64 (rd_laws_Call xs i).f1) ∧ w.cell? ⟨(ad.add (i.toNat * 6)).block, (ad.add (i.toNat * 6)).off + 2, none⟩ = some (.slice A2 (rd_laws_Call xs i).f2.length c2) ∧ w.cell? ⟨(ad.add (i.toNat * 6)).block, (ad.add (i.toNat * 6)).off + 3, none⟩ = some (.slice A3 (rd_laws_Call xs i).f3.length c3) ∧ w.cell? ⟨(ad.add (i.toNat * 6)).block, (ad.add (i.toNat * 6)).off + 4, none⟩ = some (.int .i64 (rd_laws_Call xs i).f4) ∧ w.cell? ⟨(ad.add (i.toNat * 6)).block, (ad.add (i.toNat * 6)).off + 5, none⟩ = some (.bool (rd_laws_Call xs i).f5) ∧ (rd_laws_Call xs i).f2.length ≤ c2 ∧ k_laws_Val.C w A2 (rd_laws_Call xs i).f2.length (rd_laws_Call xs i).f2 ∧ (rd_laws_Call xs i).f3.length ≤ c3 ∧ k_laws_Val.C w A3 (rd_laws_Call xs i).f3.length (rd_laws_Call xs i).f3 := by
  obtain ⟨ad, c, e, _, hK, hc0⟩ := Kd.C_get h z_laws_Call i h0 h1
  have hc : ∀ j u, c[j]? = some u → w.cell? (ad.add (i.toNat * 6 + j)) = some u := hc0
  obtain ⟨A2, c2, A3, c3, rfl, l2, g2, l3, g3⟩ := k_laws_Call_open hK
  exact ⟨ad, A2, c2, A3, c3, e, hc 0 _ rfl, by rw [← add_field _ _ 1 (by omega)]; exact hc 1 _ rfl, by rw [← add_field _ _ 2 (by omega)]; exact hc 2 _ rfl, by rw [← add_field _ _ 3 (by omega)]; exact hc 3 _ rfl, by rw [← add_field _ _ 4 (by omega)]; exact hc 4 _ rfl, by rw [← add_field _ _ 5 (by omega)]; exact hc 5 _ rfl, l2, g2, l3, g3⟩
def rdl_s_laws_Call (xs : List (List S_laws_Call)) (i : Int) : (List S_laws_Call) := xs.getD i.toNat ([] : List S_laws_Call)
theorem atl_s_laws_Call {w : World} {A : Option Addr} {n : Nat} {xs : List (List S_laws_Call)} (h : Kd.C (Kd.slice 131 k_laws_Call) w A n xs) (i : Int) (h0 : 0 ≤ i) (h1 : i < n) : ∃ ad A0 c0, A = some ad ∧ w.cell? (ad.add i.toNat) = some (.slice A0 (rdl_s_laws_Call xs i).length c0) ∧ (rdl_s_laws_Call xs i).length ≤ c0 ∧ k_laws_Call.C w A0 (rdl_s_laws_Call xs i).length (rdl_s_laws_Call xs i) := by
  obtain ⟨ad, c, e, _, hK, hc0⟩ := Kd.C_get h ([] : List S_laws_Call) i h0 h1
  have hc : ∀ j u, c[j]? = some u → w.cell? (ad.add (i.toNat * 1 + j)) = some u := hc0
  obtain ⟨A0, c0, rfl, l0, g0⟩ := hK
  exact ⟨ad, A0, c0, e, by have hq := hc 0 _ rfl; rwa [Nat.mul_one, Nat.add_zero] at hq, l0, g0⟩
structure S_laws_Heap where
  f0 : (List S_laws_Call)
  f1 : Int
  f2 : Int
  f3 : (List S_laws_Val)
  f4 : Int
def z_laws_Heap : S_laws_Heap := ⟨([] : List S_laws_Call), (0 : Int), (0 : Int), ([] : List S_laws_Val), (0 : Int)⟩
def k_laws_Heap : Kd S_laws_Heap := Kd.iso (Kd.pair (Kd.slice 131 k_laws_Call) (Kd.pair (Kd.int .i64) (Kd.pair (Kd.int .i64) (Kd.pair (Kd.slice 136 k_laws_Val) (Kd.int .i64))))) (fun x : S_laws_Heap => (x.f0, x.f1, x.f2, x.f3, x.f4))
theorem k_laws_Heap_open {w : World} {x : S_laws_Heap} {cs : List Value} (h : k_laws_Heap.K w x cs) : ∃ A0 c0 A3 c3, cs = [.slice A0 x.f0.length c0, .int .i64 x.f1, .int .i64 x.f2, .slice A3 x.f3.length c3, .int .i64 x.f4] ∧ x.f0.length ≤ c0 ∧ k_laws_Call.C w A0 x.f0.length x.f0 ∧ x.f3.length ≤ c3 ∧ k_laws_Val.C w A3 x.f3.length x.f3 := by
  obtain ⟨_, _, rfl, ⟨A0, c0, rfl, l0, g0⟩, ⟨_, _, rfl, rfl, ⟨_, _, rfl, rfl, ⟨_, _, rfl, ⟨A3, c3, rfl, l3, g3⟩, rfl⟩⟩⟩⟩ := h
  exact ⟨A0, c0, A3, c3, rfl, l0, g0, l3, g3⟩
theorem k_laws_Heap_openM {w : World} {base : Nat} {ok : Nat → Prop} {x : S_laws_Heap} {cs : List Value} (h : k_laws_Heap.M w base ok x cs) : ∃ v0 v3, cs = [v0, .int .i64 x.f1, .int .i64 x.f2, v3, .int .i64 x.f4] ∧ k_laws_Call.R 131 w base ok v0 x.f0 ∧ k_laws_Val.R 136 w base ok v3 x.f3 := by
  obtain ⟨_, _, rfl, ⟨v0, rfl, g0⟩, ⟨_, _, rfl, rfl, ⟨_, _, rfl, rfl, ⟨_, _, rfl, ⟨v3, rfl, g3⟩, rfl⟩⟩⟩⟩ := h
  exact ⟨v0, v3, rfl, g0, g3⟩
theorem k_laws_Heap_mk (w : World) (x : S_laws_Heap) {A0 : Option Addr} {c0 : Nat} (l0 : x.f0.length ≤ c0) (g0 : k_laws_Call.C w A0 x.f0.length x.f0) {A3 : Option Addr} {c3 : Nat} (l3 : x.f3.length ≤ c3) (g3 : k_laws_Val.C w A3 x.f3.length x.f3) : k_laws_Heap.K w x [.slice A0 x.f0.length c0, .int .i64 x.f1, .int .i64 x.f2, .slice A3 x.f3.length c3, .int .i64 x.f4] := ⟨[.slice A0 x.f0.length c0], [.int .i64 x.f1, .int .i64 x.f2, .slice A3 x.f3.length c3, .int .i64 x.f4], rfl, ⟨A0, c0, rfl, l0, g0⟩, ⟨[.int .i64 x.f1], [.int .i64 x.f2, .slice A3 x.f3.length c3, .int .i64 x.f4], rfl, rfl, ⟨[.int .i64 x.f2], [.slice A3 x.f3.length c3, .int .i64 x.f4], rfl, rfl, ⟨[.slice A3 x.f3.length c3], [.int .i64 x.f4], rfl, ⟨A3, c3, rfl, l3, g3⟩, rfl⟩⟩⟩⟩
theorem k_laws_Heap_mkM (w : World) (base : Nat) (ok : Nat → Prop) (x : S_laws_Heap) {v0 : Value} (g0 : k_laws_Call.R 131 w base ok v0 x.f0) {v3 : Value} (g3 : k_laws_Val.R 136 w base ok v3 x.f3) : k_laws_Heap.M w base ok x [v0, .int .i64 x.f1, .int .i64 x.f2, v3, .int .i64 x.f4] := ⟨[v0], [.int .i64 x.f1, .int .i64 x.f2, v3, .int .i64 x.f4], rfl, ⟨v0, rfl, g0⟩, ⟨[.int .i64 x.f1], [.int .i64 x.f2, v3, .int .i64 x.f4], rfl, rfl, ⟨[.int .i64 x.f2], [v3, .int .i64 x.f4], rfl, rfl, ⟨[v3], [.int .i64 x.f4], rfl, ⟨v3, rfl, g3⟩, rfl⟩⟩⟩⟩
theorem k_laws_Heap_openF {W : World} {ok : Nat → Prop} {x : S_laws_Heap} {cs : List Value} (h : Kd.FK k_laws_Heap W ok x cs) : ∃ A0 c0 A3 c3, cs = [.slice A0 x.f0.length c0, .int .i64 x.f1, .int .i64 x.f2, .slice A3 x.f3.length c3, .int .i64 x.f4] ∧ x.f0.length ≤ c0 ∧ Kd.F k_laws_Call W ok A0 x.f0.length x.f0 ∧ x.f3.length ≤ c3 ∧ Kd.F k_laws_Val W ok A3 x.f3.length x.f3 := by
  obtain ⟨A0, c0, A3, c3, rfl, l0, _, l3, _⟩ := k_laws_Heap_open (Kd.FK_now h)
  exact ⟨A0, c0, A3, c3, rfl, l0, (fun W' hW => by obtain ⟨A0_, c0_, A3_, c3_, he, l0_, g0_, l3_, g3_⟩ := k_laws_Heap_open (h W' hW); injection (Option.some.inj (show some (Value.slice A0 x.f0.length c0) = some (Value.slice A0_ x.f0.length c0_) from congrArg (fun l => l[0]?) he)) with ha_ _ _; rw [ha_]; exact g0_), l3, (fun W' hW => by obtain ⟨A0_, c0_, A3_, c3_, he, l0_, g0_, l3_, g3_⟩ := k_laws_Heap_open (h W' hW); injection (Option.some.inj (show some (Value.slice A3 x.f3.length c3) = some (Value.slice A3_ x.f3.length c3_) from congrArg (fun l => l[3]?) he)) with ha_ _ _; rw [ha_]; exact g3_)⟩
theorem k_laws_Heap_mkF (W : World) (ok : Nat → Prop) (x : S_laws_Heap) {A0 : Option Addr} {c0 : Nat} (l0 : x.f0.length ≤ c0) (g0 : Kd.F k_laws_Call W ok A0 x.f0.length x.f0) {A3 : Option Addr} {c3 : Nat} (l3 : x.f3.length ≤ c3) (g3 : Kd.F k_laws_Val W ok A3 x.f3.length x.f3) : Kd.FK k_laws_Heap W ok x [.slice A0 x.f0.length c0, .int .i64 x.f1, .int .i64 x.f2, .slice A3 x.f3.length c3, .int .i64 x.f4] := fun W2 hW => k_laws_Heap_mk W2 x l0 (g0 W2 hW) l3 (g3 W2 hW)
def rd_laws_Heap (xs : List S_laws_Heap) (i : Int) : S_laws_Heap := xs.getD i.toNat z_laws_Heap
theorem at_laws_Heap {w : World} {A : Option Addr} {n : Nat} {xs : List S_laws_Heap} (h : Kd.C k_laws_Heap w A n xs) (i : Int) (h0 : 0 ≤ i) (h1 : i < n) : ∃ ad A0 c0 A3 c3, A = some ad ∧ w.cell? (ad.add (i.toNat * 5)) = some (.slice A0 (rd_laws_Heap xs i).f0.length c0) ∧ w.cell? ⟨(ad.add (i.toNat * 5)).block, (ad.add (i.toNat * 5)).off + 1, none⟩ = some (.int .i64 (rd_laws_Heap xs i).f1) ∧ w.cell? ⟨(ad.add (i.toNat * 5)).block, (ad.add (i.toNat * 5)).off + 2, none⟩ = some (.int .i64 (rd_laws_Heap xs i).f2) ∧ w.cell? ⟨(ad.add (i.toNat * 5)).block, (ad.add (i.toNat * 5)).off + 3, none⟩ = some (.slice A3 (rd_laws_Heap xs i).f3.length c3) ∧ w.cell? ⟨(ad.add (i.toNat * 5)).block, (ad.add (i.toNat * 5)).off + 4, none⟩ = some (.int .i64 (rd_laws_Heap xs i).f4) ∧ (rd_laws_Heap xs i).f0.length ≤ c0 ∧ k_laws_Call.C w A0 (rd_laws_Heap xs i).f0.length (rd_laws_Heap xs i).f0 ∧ (rd_laws_Heap xs i).f3.length ≤ c3 ∧ k_laws_Val.C w A3 (rd_laws_Heap xs i).f3.length (rd_laws_Heap xs i).f3 := by
  obtain ⟨ad, c, e, _, hK, hc0⟩ := Kd.C_get h z_laws_Heap i h0 h1
  have hc : ∀ j u, c[j]? = some u → w.cell? (ad.add (i.toNat * 5 + j)) = some u := hc0
  obtain ⟨A0, c0, A3, c3, rfl, l0, g0, l3, g3⟩ := k_laws_Heap_open hK
  exact ⟨ad, A0, c0, A3, c3, e, hc 0 _ rfl, by rw [← add_field _ _ 1 (by omega)]; exact hc 1 _ rfl, by rw [← add_field _ _ 2 (by omega)]; exact hc 2 _ rfl, by rw [← add_field _ _ 3 (by omega)]; exact hc 3 _ rfl, by rw [← add_field _ _ 4 (by omega)]; exact hc 4 _ rfl, l0, g0, l3, g3⟩
structure S_laws_Op where
  f0 : Int
  f1 : Int
def z_laws_Op : S_laws_Op := ⟨(0 : Int), (0 : Int)⟩
def k_laws_Op : Kd S_laws_Op := Kd.iso (Kd.pair (Kd.int .i64) (Kd.int .i64)) (fun x : S_laws_Op => (x.f0, x.f1))
theorem k_laws_Op_open {w : World} {x : S_laws_Op} {cs : List Value} (h : k_laws_Op.K w x cs) : cs = [.int .i64 x.f0, .int .i64 x.f1] := by
  obtain ⟨_, _, rfl, rfl, rfl⟩ := h
  exact rfl
theorem k_laws_Op_openM {w : World} {base : Nat} {ok : Nat → Prop} {x : S_laws_Op} {cs : List Value} (h : k_laws_Op.M w base ok x cs) : cs = [.int .i64 x.f0, .int .i64 x.f1] := by
  obtain ⟨_, _, rfl, rfl, rfl⟩ := h
  exact rfl
theorem k_laws_Op_mk (w : World) (x : S_laws_Op)  : k_laws_Op.K w x [.int .i64 x.f0, .int .i64 x.f1] := ⟨[.int .i64 x.f0], [.int .i64 x.f1], rfl, rfl, rfl⟩
theorem k_laws_Op_mkM (w : World) (base : Nat) (ok : Nat → Prop) (x : S_laws_Op)  : k_laws_Op.M w base ok x [.int .i64 x.f0, .int .i64 x.f1] := ⟨[.int .i64 x.f0], [.int .i64 x.f1], rfl, rfl, rfl⟩
theorem k_laws_Op_mkF (W : World) (ok : Nat → Prop) (x : S_laws_Op) : Kd.FK k_laws_Op W ok x [.int .i64 x.f0, .int .i64 x.f1] := fun W2 _ => k_laws_Op_mk W2 x
def rd_laws_Op (xs : List S_laws_Op) (i : Int) : S_laws_Op := xs.getD i.toNat z_laws_Op
theorem at_laws_Op {w : World} {A : Option Addr} {n : Nat} {xs : List S_laws_Op} (h : Kd.C k_laws_Op w A n xs) (i : Int) (h0 : 0 ≤ i) (h1 : i < n) : ∃ ad , A = some ad ∧ w.cell? (ad.add (i.toNat * 2)) = some (.int .i64 (rd_laws_Op xs i).f0) ∧ w.cell? ⟨(ad.add (i.toNat * 2)).block, (ad.add (i.toNat * 2)).off + 1, none⟩ = some (.int .i64 (rd_laws_Op xs i).f1) := by
  obtain ⟨ad, c, e, _, hK, hc0⟩ := Kd.C_get h z_laws_Op i h0 h1
  have hc : ∀ j u, c[j]? = some u → w.cell? (ad.add (i.toNat * 2 + j)) = some u := hc0
  obtain rfl := k_laws_Op_open hK
  exact ⟨ad, e, hc 0 _ rfl, by rw [← add_field _ _ 1 (by omega)]; exact hc 1 _ rfl⟩
def rdl_s_laws_Op (xs : List (List S_laws_Op)) (i : Int) : (List S_laws_Op) := xs.getD i.toNat ([] : List S_laws_Op)
theorem atl_s_laws_Op {w : World} {A : Option Addr} {n : Nat} {xs : List (List S_laws_Op)} (h : Kd.C (Kd.slice 40 k_laws_Op) w A n xs) (i : Int) (h0 : 0 ≤ i) (h1 : i < n) : ∃ ad A0 c0, A = some ad ∧ w.cell? (ad.add i.toNat) = some (.slice A0 (rdl_s_laws_Op xs i).length c0) ∧ (rdl_s_laws_Op xs i).length ≤ c0 ∧ k_laws_Op.C w A0 (rdl_s_laws_Op xs i).length (rdl_s_laws_Op xs i) := by
  obtain ⟨ad, c, e, _, hK, hc0⟩ := Kd.C_get h ([] : List S_laws_Op) i h0 h1
  have hc : ∀ j u, c[j]? = some u → w.cell? (ad.add (i.toNat * 1 + j)) = some u := hc0
  obtain ⟨A0, c0, rfl, l0, g0⟩ := hK
  exact ⟨ad, A0, c0, e, by have hq := hc 0 _ rfl; rwa [Nat.mul_one, Nat.add_zero] at hq, l0, g0⟩
structure S_laws_Method where
  f0 : Int
  f1 : Int
  f2 : (List S_laws_Op)
def z_laws_Method : S_laws_Method := ⟨(0 : Int), (0 : Int), ([] : List S_laws_Op)⟩
def k_laws_Method : Kd S_laws_Method := Kd.iso (Kd.pair (Kd.int .i64) (Kd.pair (Kd.int .i64) (Kd.slice 40 k_laws_Op))) (fun x : S_laws_Method => (x.f0, x.f1, x.f2))
theorem k_laws_Method_open {w : World} {x : S_laws_Method} {cs : List Value} (h : k_laws_Method.K w x cs) : ∃ A2 c2, cs = [.int .i64 x.f0, .int .i64 x.f1, .slice A2 x.f2.length c2] ∧ x.f2.length ≤ c2 ∧ k_laws_Op.C w A2 x.f2.length x.f2 := by
  obtain ⟨_, _, rfl, rfl, ⟨_, _, rfl, rfl, ⟨A2, c2, rfl, l2, g2⟩⟩⟩ := h
  exact ⟨A2, c2, rfl, l2, g2⟩
theorem k_laws_Method_openM {w : World} {base : Nat} {ok : Nat → Prop} {x : S_laws_Method} {cs : List Value} (h : k_laws_Method.M w base ok x cs) : ∃ v2, cs = [.int .i64 x.f0, .int .i64 x.f1, v2] ∧ k_laws_Op.R 40 w base ok v2 x.f2 := by
  obtain ⟨_, _, rfl, rfl, ⟨_, _, rfl, rfl, ⟨v2, rfl, g2⟩⟩⟩ := h
  exact ⟨v2, rfl, g2⟩
theorem k_laws_Method_mk (w : World) (x : S_laws_Method) {A2 : Option Addr} {c2 : Nat} (l2 : x.f2.length ≤ c2) (g2 : k_laws_Op.C w A2 x.f2.length x.f2) : k_laws_Method.K w x [.int .i64 x.f0, .int .i64 x.f1, .slice A2 x.f2.length c2] := ⟨[.int .i64 x.f0], [.int .i64 x.f1, .slice A2 x.f2.length c2], rfl, rfl, ⟨[.int .i64 x.f1], [.slice A2 x.f2.length c2], rfl, rfl, ⟨A2, c2, rfl, l2, g2⟩⟩⟩
theorem k_laws_Method_mkM (w : World) (base : Nat) (ok : Nat → Prop) (x : S_laws_Method) {v2 : Value} (g2 : k_laws_Op.R 40 w base ok v2 x.f2) : k_laws_Method.M w base ok x [.int .i64 x.f0, .int .i64 x.f1, v2] := ⟨[.int .i64 x.f0], [.int .i64 x.f1, v2], rfl, rfl, ⟨[.int .i64 x.f1], [v2], rfl, rfl, ⟨v2, rfl, g2⟩⟩⟩
theorem k_laws_Method_openF {W : World} {ok : Nat → Prop} {x : S_laws_Method} {cs : List Value} (h : Kd.FK k_laws_Method W ok x cs) : ∃ A2 c2, cs = [.int .i64 x.f0, .int .i64 x.f1, .slice A2 x.f2.length c2] ∧ x.f2.length ≤ c2 ∧ Kd.F k_laws_Op W ok A2 x.f2.length x.f2 := by
  obtain ⟨A2, c2, rfl, l2, _⟩ := k_laws_Method_open (Kd.FK_now h)
  exact ⟨A2, c2, rfl, l2, (fun W' hW => by obtain ⟨A2_, c2_, he, l2_, g2_⟩ := k_laws_Method_open (h W' hW); injection (Option.some.inj (show some (Value.slice A2 x.f2.length c2) = some (Value.slice A2_ x.f2.length c2_) from congrArg (fun l => l[2]?) he)) with ha_ _ _; rw [ha_]; exact g2_)⟩
theorem k_laws_Method_mkF (W : World) (ok : Nat → Prop) (x : S_laws_Method) {A2 : Option Addr} {c2 : Nat} (l2 : x.f2.length ≤ c2) (g2 : Kd.F k_laws_Op W ok A2 x.f2.length x.f2) : Kd.FK k_laws_Method W ok x [.int .i64 x.f0, .int .i64 x.f1, .slice A2 x.f2.length c2] := fun W2 hW => k_laws_Method_mk W2 x l2 (g2 W2 hW)
def rd_laws_Method (xs : List S_laws_Method) (i : Int) : S_laws_Method := xs.getD i.toNat z_laws_Method
theorem at_laws_Method {w : World} {A : Option Addr} {n : Nat} {xs : List S_laws_Method} (h : Kd.C k_laws_Method w A n xs) (i : Int) (h0 : 0 ≤ i) (h1 : i < n) : ∃ ad A2 c2, A = some ad ∧ w.cell? (ad.add (i.toNat * 3)) = some (.int .i64 (rd_laws_Method xs i).f0) ∧ w.cell? ⟨(ad.add (i.toNat * 3)).block, (ad.add (i.toNat * 3)).off + 1, none⟩ = some (.int .i64 (rd_laws_Method xs i).f1) ∧ w.cell? ⟨(ad.add (i.toNat * 3)).block, (ad.add (i.toNat * 3)).off + 2, none⟩ = some (.slice A2 (rd_laws_Method xs i).f2.length c2) ∧ (rd_laws_Method xs i).f2.length ≤ c2 ∧ k_laws_Op.C w A2 (rd_laws_Method xs i).f2.length (rd_laws_Method xs i).f2 := by
  obtain ⟨ad, c, e, _, hK, hc0⟩ := Kd.C_get h z_laws_Method i h0 h1
  have hc : ∀ j u, c[j]? = some u → w.cell? (ad.add (i.toNat * 3 + j)) = some u := hc0
  obtain ⟨A2, c2, rfl, l2, g2⟩ := k_laws_Method_open hK
  exact ⟨ad, A2, c2, e, hc 0 _ rfl, by rw [← add_field _ _ 1 (by omega)]; exact hc 1 _ rfl, by rw [← add_field _ _ 2 (by omega)]; exact hc 2 _ rfl, l2, g2⟩
def rdl_s_laws_Method (xs : List (List S_laws_Method)) (i : Int) : (List S_laws_Method) := xs.getD i.toNat ([] : List S_laws_Method)
theorem atl_s_laws_Method {w : World} {A : Option Addr} {n : Nat} {xs : List (List S_laws_Method)} (h : Kd.C (Kd.slice 142 k_laws_Method) w A n xs) (i : Int) (h0 : 0 ≤ i) (h1 : i < n) : ∃ ad A0 c0, A = some ad ∧ w.cell? (ad.add i.toNat) = some (.slice A0 (rdl_s_laws_Method xs i).length c0) ∧ (rdl_s_laws_Method xs i).length ≤ c0 ∧ k_laws_Method.C w A0 (rdl_s_laws_Method xs i).length (rdl_s_laws_Method xs i) := by
  obtain ⟨ad, c, e, _, hK, hc0⟩ := Kd.C_get h ([] : List S_laws_Method) i h0 h1
  have hc : ∀ j u, c[j]? = some u → w.cell? (ad.add (i.toNat * 1 + j)) = some u := hc0
  obtain ⟨A0, c0, rfl, l0, g0⟩ := hK
  exact ⟨ad, A0, c0, e, by have hq := hc 0 _ rfl; rwa [Nat.mul_one, Nat.add_zero] at hq, l0, g0⟩
structure S_laws_Prog where
  f0 : (List S_laws_Method)
def z_laws_Prog : S_laws_Prog := ⟨([] : List S_laws_Method)⟩
def k_laws_Prog : Kd S_laws_Prog := Kd.iso (Kd.slice 142 k_laws_Method) (fun x : S_laws_Prog => x.f0)
theorem k_laws_Prog_open {w : World} {x : S_laws_Prog} {cs : List Value} (h : k_laws_Prog.K w x cs) : ∃ A0 c0, cs = [.slice A0 x.f0.length c0] ∧ x.f0.length ≤ c0 ∧ k_laws_Method.C w A0 x.f0.length x.f0 := by
  obtain ⟨A0, c0, rfl, l0, g0⟩ := h
  exact ⟨A0, c0, rfl, l0, g0⟩
theorem k_laws_Prog_openM {w : World} {base : Nat} {ok : Nat → Prop} {x : S_laws_Prog} {cs : List Value} (h : k_laws_Prog.M w base ok x cs) : ∃ v0, cs = [v0] ∧ k_laws_Method.R 142 w base ok v0 x.f0 := by
  obtain ⟨v0, rfl, g0⟩ := h
  exact ⟨v0, rfl, g0⟩
theorem k_laws_Prog_mk (w : World) (x : S_laws_Prog) {A0 : Option Addr} {c0 : Nat} (l0 : x.f0.length ≤ c0) (g0 : k_laws_Method.C w A0 x.f0.length x.f0) : k_laws_Prog.K w x [.slice A0 x.f0.length c0] := ⟨A0, c0, rfl, l0, g0⟩
theorem k_laws_Prog_mkM (w : World) (base : Nat) (ok : Nat → Prop) (x : S_laws_Prog) {v0 : Value} (g0 : k_laws_Method.R 142 w base ok v0 x.f0) : k_laws_Prog.M w base ok x [v0] := ⟨v0, rfl, g0⟩
theorem k_laws_Prog_openF {W : World} {ok : Nat → Prop} {x : S_laws_Prog} {cs : List Value} (h : Kd.FK k_laws_Prog W ok x cs) : ∃ A0 c0, cs = [.slice A0 x.f0.length c0] ∧ x.f0.length ≤ c0 ∧ Kd.F k_laws_Method W ok A0 x.f0.length x.f0 := by
  obtain ⟨A0, c0, rfl, l0, _⟩ := k_laws_Prog_open (Kd.FK_now h)
  exact ⟨A0, c0, rfl, l0, (fun W' hW => by obtain ⟨A0_, c0_, he, l0_, g0_⟩ := k_laws_Prog_open (h W' hW); injection (Option.some.inj (show some (Value.slice A0 x.f0.length c0) = some (Value.slice A0_ x.f0.length c0_) from congrArg (fun l => l[0]?) he)) with ha_ _ _; rw [ha_]; exact g0_)⟩
theorem k_laws_Prog_mkF (W : World) (ok : Nat → Prop) (x : S_laws_Prog) {A0 : Option Addr} {c0 : Nat} (l0 : x.f0.length ≤ c0) (g0 : Kd.F k_laws_Method W ok A0 x.f0.length x.f0) : Kd.FK k_laws_Prog W ok x [.slice A0 x.f0.length c0] := fun W2 hW => k_laws_Prog_mk W2 x l0 (g0 W2 hW)
def rd_laws_Prog (xs : List S_laws_Prog) (i : Int) : S_laws_Prog := xs.getD i.toNat z_laws_Prog
theorem at_laws_Prog {w : World} {A : Option Addr} {n : Nat} {xs : List S_laws_Prog} (h : Kd.C k_laws_Prog w A n xs) (i : Int) (h0 : 0 ≤ i) (h1 : i < n) : ∃ ad A0 c0, A = some ad ∧ w.cell? (ad.add i.toNat) = some (.slice A0 (rd_laws_Prog xs i).f0.length c0) ∧ (rd_laws_Prog xs i).f0.length ≤ c0 ∧ k_laws_Method.C w A0 (rd_laws_Prog xs i).f0.length (rd_laws_Prog xs i).f0 := by
  obtain ⟨ad, c, e, _, hK, hc0⟩ := Kd.C_get h z_laws_Prog i h0 h1
  have hc : ∀ j u, c[j]? = some u → w.cell? (ad.add (i.toNat * 1 + j)) = some u := hc0
  obtain ⟨A0, c0, rfl, l0, g0⟩ := k_laws_Prog_open hK
  exact ⟨ad, A0, c0, e, by have hq := hc 0 _ rfl; rwa [Nat.mul_one, Nat.add_zero] at hq, l0, g0⟩
structure S_laws_Frame where
  f0 : Int
  f1 : Int
  f2 : Int
  f3 : (List S_laws_Val)
  f4 : (List S_laws_Val)
def z_laws_Frame : S_laws_Frame := ⟨(0 : Int), (0 : Int), (0 : Int), ([] : List S_laws_Val), ([] : List S_laws_Val)⟩
def k_laws_Frame : Kd S_laws_Frame := Kd.iso (Kd.pair (Kd.int .i64) (Kd.pair (Kd.int .i64) (Kd.pair (Kd.int .i64) (Kd.pair (Kd.slice 136 k_laws_Val) (Kd.slice 136 k_laws_Val))))) (fun x : S_laws_Frame => (x.f0, x.f1, x.f2, x.f3, x.f4))
theorem k_laws_Frame_open {w : World} {x : S_laws_Frame} {cs : List Value} (h : k_laws_Frame.K w x cs) : ∃ A3 c3 A4 c4, cs = [.int .i64 x.f0, .int .i64 x.f1, .int .i64 x.f2, .slice A3 x.f3.length c3, .slice A4 x.f4.length c4] ∧ x.f3.length ≤ c3 ∧ k_laws_Val.C w A3 x.f3.length x.f3 ∧ x.f4.length ≤ c4 ∧ k_laws_Val.C w A4 x.f4.length x.f4 := by
  obtain ⟨_, _, rfl, rfl, ⟨_, _, rfl, rfl, ⟨_, _, rfl, rfl, ⟨_, _, rfl, ⟨A3, c3, rfl, l3, g3⟩, ⟨A4, c4, rfl, l4, g4⟩⟩⟩⟩⟩ := h
  exact ⟨A3, c3, A4, c4, rfl, l3, g3, l4, g4⟩
theorem k_laws_Frame_openM {w : World} {base : Nat} {ok : Nat → Prop} {x : S_laws_Frame} {cs : List Value} (h : k_laws_Frame.M w base ok x cs) : ∃ v3 v4, cs = [.int .i64 x.f0, .int .i64 x.f1, .int .i64 x.f2, v3, v4] ∧ k_laws_Val.R 136 w base ok v3 x.f3 ∧ k_laws_Val.R 136 w base ok v4 x.f4 := by
  obtain ⟨_, _, rfl, rfl, ⟨_, _, rfl, rfl, ⟨_, _, rfl, rfl, ⟨_, _, rfl, ⟨v3, rfl, g3⟩, ⟨v4, rfl, g4⟩⟩⟩⟩⟩ := h
  exact ⟨v3, v4, rfl, g3, g4⟩
theorem k_laws_Frame_mk (w : World) (x : S_laws_Frame) {A3 : Option Addr} {c3 : Nat} (l3 : x.f3.length ≤ c3) (g3 : k_laws_Val.C w A3 x.f3.length x.f3) {A4 : Option Addr} {c4 : Nat} (l4 : x.f4.length ≤ c4) (g4 : k_laws_Val.C w A4 x.f4.length x.f4) : k_laws_Frame.K w x [.int .i64 x.f0, .int .i64 x.f1, .int .i64 x.f2, .slice A3 x.f3.length c3, .slice A4 x.f4.length c4] := ⟨[.int .i64 x.f0], [.int .i64 x.f1, .int .i64 x.f2, .slice A3 x.f3.length c3, .slice A4 x.f4.length c4], rfl, rfl, ⟨[.int .i64 x.f1], [.int .i64 x.f2, .slice A3 x.f3.length c3, .slice A4 x.f4.length c4], rfl, rfl, ⟨[.int .i64 x.f2], [.slice A3 x.f3.length c3, .slice A4 x.f4.length c4], rfl, rfl, ⟨[.slice A3 x.f3.length c3], [.slice A4 x.f4.length c4], rfl, ⟨A3, c3, rfl, l3, g3⟩, ⟨A4, c4, rfl, l4, g4⟩⟩⟩⟩⟩
theorem k_laws_Frame_mkM (w : World) (base : Nat) (ok : Nat → Prop) (x : S_laws_Frame) {v3 : Value} (g3 : k_laws_Val.R 136 w base ok v3 x.f3) {v4 : Value} (g4 : k_laws_Val.R 136 w base ok v4 x.f4) : k_laws_Frame.M w base ok x [.int .i64 x.f0, .int .i64 x.f1, .int .i64 x.f2, v3, v4] := ⟨[.int .i64 x.f0], [.int .i64 x.f1, .int .i64 x.f2, v3, v4], rfl, rfl, ⟨[.int .i64 x.f1], [.int .i64 x.f2, v3, v4], rfl, rfl, ⟨[.int .i64 x.f2], [v3, v4], rfl, rfl, ⟨[v3], [v4], rfl, ⟨v3, rfl, g3⟩, ⟨v4, rfl, g4⟩⟩⟩⟩⟩
theorem k_laws_Frame_openF {W : World} {ok : Nat → Prop} {x : S_laws_Frame} {cs : List Value} (h : Kd.FK k_laws_Frame W ok x cs) : ∃ A3 c3 A4 c4, cs = [.int .i64 x.f0, .int .i64 x.f1, .int .i64 x.f2, .slice A3 x.f3.length c3, .slice A4 x.f4.length c4] ∧ x.f3.length ≤ c3 ∧ Kd.F k_laws_Val W ok A3 x.f3.length x.f3 ∧ x.f4.length ≤ c4 ∧ Kd.F k_laws_Val W ok A4 x.f4.length x.f4 := by
  obtain ⟨A3, c3, A4, c4, rfl, l3, _, l4, _⟩ := k_laws_Frame_open (Kd.FK_now h)
  exact ⟨A3, c3, A4, c4, rfl, l3, (fun W' hW => by obtain ⟨A3_, c3_, A4_, c4_, he, l3_, g3_, l4_, g4_⟩ := k_laws_Frame_open (h W' hW); injection (Option.some.inj (show some (Value.slice A3 x.f3.length c3) = some (Value.slice A3_ x.f3.length c3_) from congrArg (fun l => l[3]?) he)) with ha_ _ _; rw [ha_]; exact g3_), l4, (fun W' hW => by obtain ⟨A3_, c3_, A4_, c4_, he, l3_, g3_, l4_, g4_⟩ := k_laws_Frame_open (h W' hW); injection (Option.some.inj (show some (Value.slice A4 x.f4.length c4) = some (Value.slice A4_ x.f4.length c4_) from congrArg (fun l => l[4]?) he)) with ha_ _ _; rw [ha_]; exact g4_)⟩
theorem k_laws_Frame_mkF (W : World) (ok : Nat → Prop) (x : S_laws_Frame) {A3 : Option Addr} {c3 : Nat} (l3 : x.f3.length ≤ c3) (g3 : Kd.F k_laws_Val W ok A3 x.f3.length x.f3) {A4 : Option Addr} {c4 : Nat} (l4 : x.f4.length ≤ c4) (g4 : Kd.F k_laws_Val W ok A4 x.f4.length x.f4) : Kd.FK k_laws_Frame W ok x [.int .i64 x.f0, .int .i64 x.f1, .int .i64 x.f2, .slice A3 x.f3.length c3, .slice A4 x.f4.length c4] := fun W2 hW => k_laws_Frame_mk W2 x l3 (g3 W2 hW) l4 (g4 W2 hW)
def rd_laws_Frame (xs : List S_laws_Frame) (i : Int) : S_laws_Frame := xs.getD i.toNat z_laws_Frame
theorem at_laws_Frame {w : World} {A : Option Addr} {n : Nat} {xs : List S_laws_Frame} (h : Kd.C k_laws_Frame w A n xs) (i : Int) (h0 : 0 ≤ i) (h1 : i < n) : ∃ ad A3 c3 A4 c4, A = some ad ∧ w.cell? (ad.add (i.toNat * 5)) = some (.int .i64 (rd_laws_Frame xs i).f0) ∧ w.cell? ⟨(ad.add (i.toNat * 5)).block, (ad.add (i.toNat * 5)).off + 1, none⟩ = some (.int .i64 (rd_laws_Frame xs i).f1) ∧ w.cell? ⟨(ad.add (i.toNat * 5)).block, (ad.add (i.toNat * 5)).off + 2, none⟩ = some (.int .i64 (rd_laws_Frame xs i).f2) ∧ w.cell? ⟨(ad.add (i.toNat * 5)).block, (ad.add (i.toNat * 5)).off + 3, none⟩ = some (.slice A3 (rd_laws_Frame xs i).f3.length c3) ∧ w.cell? ⟨(ad.add (i.toNat * 5)).block, (ad.add (i.toNat * 5)).off + 4, none⟩ = some (.slice A4 (rd_laws_Frame xs i).f4.length c4) ∧ (rd_laws_Frame xs i).f3.length ≤ c3 ∧ k_laws_Val.C w A3 (rd_laws_Frame xs i).f3.length (rd_laws_Frame xs i).f3 ∧ (rd_laws_Frame xs i).f4.length ≤ c4 ∧ k_laws_Val.C w A4 (rd_laws_Frame xs i).f4.length (rd_laws_Frame xs i).f4 := by
  obtain ⟨ad, c, e, _, hK, hc0⟩ := Kd.C_get h z_laws_Frame i h0 h1
  have hc : ∀ j u, c[j]? = some u → w.cell? (ad.add (i.toNat * 5 + j)) = some u := hc0
  obtain ⟨A3, c3, A4, c4, rfl, l3, g3, l4, g4⟩ := k_laws_Frame_open hK
  exact ⟨ad, A3, c3, A4, c4, e, hc 0 _ rfl, by rw [← add_field _ _ 1 (by omega)]; exact hc 1 _ rfl, by rw [← add_field _ _ 2 (by omega)]; exact hc 2 _ rfl, by rw [← add_field _ _ 3 (by omega)]; exact hc 3 _ rfl, by rw [← add_field _ _ 4 (by omega)]; exact hc 4 _ rfl, l3, g3, l4, g4⟩
def rdl_s_laws_Frame (xs : List (List S_laws_Frame)) (i : Int) : (List S_laws_Frame) := xs.getD i.toNat ([] : List S_laws_Frame)
theorem atl_s_laws_Frame {w : World} {A : Option Addr} {n : Nat} {xs : List (List S_laws_Frame)} (h : Kd.C (Kd.slice 182 k_laws_Frame) w A n xs) (i : Int) (h0 : 0 ≤ i) (h1 : i < n) : ∃ ad A0 c0, A = some ad ∧ w.cell? (ad.add i.toNat) = some (.slice A0 (rdl_s_laws_Frame xs i).length c0) ∧ (rdl_s_laws_Frame xs i).length ≤ c0 ∧ k_laws_Frame.C w A0 (rdl_s_laws_Frame xs i).length (rdl_s_laws_Frame xs i) := by
  obtain ⟨ad, c, e, _, hK, hc0⟩ := Kd.C_get h ([] : List S_laws_Frame) i h0 h1
  have hc : ∀ j u, c[j]? = some u → w.cell? (ad.add (i.toNat * 1 + j)) = some u := hc0
  obtain ⟨A0, c0, rfl, l0, g0⟩ := hK
  exact ⟨ad, A0, c0, e, by have hq := hc 0 _ rfl; rwa [Nat.mul_one, Nat.add_zero] at hq, l0, g0⟩
structure S_laws_Page where
  f0 : Int
  f1 : (List S_laws_Frame)
def z_laws_Page : S_laws_Page := ⟨(0 : Int), ([] : List S_laws_Frame)⟩
def k_laws_Page : Kd S_laws_Page := Kd.iso (Kd.pair (Kd.int .i64) (Kd.slice 182 k_laws_Frame)) (fun x : S_laws_Page => (x.f0, x.f1))
theorem k_laws_Page_open {w : World} {x : S_laws_Page} {cs : List Value} (h : k_laws_Page.K w x cs) : ∃ A1 c1, cs = [.int .i64 x.f0, .slice A1 x.f1.length c1] ∧ x.f1.length ≤ c1 ∧ k_laws_Frame.C w A1 x.f1.length x.f1 := by
  obtain ⟨_, _, rfl, rfl, ⟨A1, c1, rfl, l1, g1⟩⟩ := h
  exact ⟨A1, c1, rfl, l1, g1⟩
theorem k_laws_Page_openM {w : World} {base : Nat} {ok : Nat → Prop} {x : S_laws_Page} {cs : List Value} (h : k_laws_Page.M w base ok x cs) : ∃ v1, cs = [.int .i64 x.f0, v1] ∧ k_laws_Frame.R 182 w base ok v1 x.f1 := by
  obtain ⟨_, _, rfl, rfl, ⟨v1, rfl, g1⟩⟩ := h
  exact ⟨v1, rfl, g1⟩
theorem k_laws_Page_mk (w : World) (x : S_laws_Page) {A1 : Option Addr} {c1 : Nat} (l1 : x.f1.length ≤ c1) (g1 : k_laws_Frame.C w A1 x.f1.length x.f1) : k_laws_Page.K w x [.int .i64 x.f0, .slice A1 x.f1.length c1] := ⟨[.int .i64 x.f0], [.slice A1 x.f1.length c1], rfl, rfl, ⟨A1, c1, rfl, l1, g1⟩⟩
theorem k_laws_Page_mkM (w : World) (base : Nat) (ok : Nat → Prop) (x : S_laws_Page) {v1 : Value} (g1 : k_laws_Frame.R 182 w base ok v1 x.f1) : k_laws_Page.M w base ok x [.int .i64 x.f0, v1] := ⟨[.int .i64 x.f0], [v1], rfl, rfl, ⟨v1, rfl, g1⟩⟩
theorem k_laws_Page_openF {W : World} {ok : Nat → Prop} {x : S_laws_Page} {cs : List Value} (h : Kd.FK k_laws_Page W ok x cs) : ∃ A1 c1, cs = [.int .i64 x.f0, .slice A1 x.f1.length c1] ∧ x.f1.length ≤ c1 ∧ Kd.F k_laws_Frame W ok A1 x.f1.length x.f1 := by
  obtain ⟨A1, c1, rfl, l1, _⟩ := k_laws_Page_open (Kd.FK_now h)
  exact ⟨A1, c1, rfl, l1, (fun W' hW => by obtain ⟨A1_, c1_, he, l1_, g1_⟩ := k_laws_Page_open (h W' hW); injection (Option.some.inj (show some (Value.slice A1 x.f1.length c1) = some (Value.slice A1_ x.f1.length c1_) from congrArg (fun l => l[1]?) he)) with ha_ _ _; rw [ha_]; exact g1_)⟩
theorem k_laws_Page_mkF (W : World) (ok : Nat → Prop) (x : S_laws_Page) {A1 : Option Addr} {c1 : Nat} (l1 : x.f1.length ≤ c1) (g1 : Kd.F k_laws_Frame W ok A1 x.f1.length x.f1) : Kd.FK k_laws_Page W ok x [.int .i64 x.f0, .slice A1 x.f1.length c1] := fun W2 hW => k_laws_Page_mk W2 x l1 (g1 W2 hW)
def rd_laws_Page (xs : List S_laws_Page) (i : Int) : S_laws_Page := xs.getD i.toNat z_laws_Page
theorem at_laws_Page {w : World} {A : Option Addr} {n : Nat} {xs : List S_laws_Page} (h : Kd.C k_laws_Page w A n xs) (i : Int) (h0 : 0 ≤ i) (h1 : i < n) : ∃ ad A1 c1, A = some ad ∧ w.cell? (ad.add (i.toNat * 2)) = some (.int .i64 (rd_laws_Page xs i).f0) ∧ w.cell? ⟨(ad.add (i.toNat * 2)).block, (ad.add (i.toNat * 2)).off + 1, none⟩ = some (.slice A1 (rd_laws_Page xs i).f1.length c1) ∧ (rd_laws_Page xs i).f1.length ≤ c1 ∧ k_laws_Frame.C w A1 (rd_laws_Page xs i).f1.length (rd_laws_Page xs i).f1 := by
  obtain ⟨ad, c, e, _, hK, hc0⟩ := Kd.C_get h z_laws_Page i h0 h1
  have hc : ∀ j u, c[j]? = some u → w.cell? (ad.add (i.toNat * 2 + j)) = some u := hc0
  obtain ⟨A1, c1, rfl, l1, g1⟩ := k_laws_Page_open hK
  exact ⟨ad, A1, c1, e, hc 0 _ rfl, by rw [← add_field _ _ 1 (by omega)]; exact hc 1 _ rfl, l1, g1⟩
def rdl_s_laws_Page (xs : List (List S_laws_Page)) (i : Int) : (List S_laws_Page) := xs.getD i.toNat ([] : List S_laws_Page)
theorem atl_s_laws_Page {w : World} {A : Option Addr} {n : Nat} {xs : List (List S_laws_Page)} (h : Kd.C (Kd.slice 156 k_laws_Page) w A n xs) (i : Int) (h0 : 0 ≤ i) (h1 : i < n) : ∃ ad A0 c0, A = some ad ∧ w.cell? (ad.add i.toNat) = some (.slice A0 (rdl_s_laws_Page xs i).length c0) ∧ (rdl_s_laws_Page xs i).length ≤ c0 ∧ k_laws_Page.C w A0 (rdl_s_laws_Page xs i).length (rdl_s_laws_Page xs i) := by
  obtain ⟨ad, c, e, _, hK, hc0⟩ := Kd.C_get h ([] : List S_laws_Page) i h0 h1
  have hc : ∀ j u, c[j]? = some u → w.cell? (ad.add (i.toNat * 1 + j)) = some u := hc0
  obtain ⟨A0, c0, rfl, l0, g0⟩ := hK
  exact ⟨ad, A0, c0, e, by have hq := hc 0 _ rfl; rwa [Nat.mul_one, Nat.add_zero] at hq, l0, g0⟩
def rdl_s_i64 (xs : List (List Int)) (i : Int) : (List Int) := xs.getD i.toNat ([] : List Int)
theorem atl_s_i64 {w : World} {A : Option Addr} {n : Nat} {xs : List (List Int)} (h : Kd.C (Kd.slice 3 (Kd.int .i64)) w A n xs) (i : Int) (h0 : 0 ≤ i) (h1 : i < n) : ∃ ad A0 c0, A = some ad ∧ w.cell? (ad.add i.toNat) = some (.slice A0 (rdl_s_i64 xs i).length c0) ∧ (rdl_s_i64 xs i).length ≤ c0 ∧ (Kd.int .i64).C w A0 (rdl_s_i64 xs i).length (rdl_s_i64 xs i) := by
  obtain ⟨ad, c, e, _, hK, hc0⟩ := Kd.C_get h ([] : List Int) i h0 h1
  have hc : ∀ j u, c[j]? = some u → w.cell? (ad.add (i.toNat * 1 + j)) = some u := hc0
  obtain ⟨A0, c0, rfl, l0, g0⟩ := hK
  exact ⟨ad, A0, c0, e, by have hq := hc 0 _ rfl; rwa [Nat.mul_one, Nat.add_zero] at hq, l0, g0⟩
structure S_laws_Twin where
  f0 : Int
  f1 : Int
  f2 : S_laws_Call
def z_laws_Twin : S_laws_Twin := ⟨(0 : Int), (0 : Int), z_laws_Call⟩
def k_laws_Twin : Kd S_laws_Twin := Kd.iso (Kd.pair (Kd.int .i64) (Kd.pair (Kd.int .i64) k_laws_Call)) (fun x : S_laws_Twin => (x.f0, x.f1, x.f2))
theorem k_laws_Twin_open {w : World} {x : S_laws_Twin} {cs : List Value} (h : k_laws_Twin.K w x cs) : ∃ A4 c4 A5 c5, cs = [.int .i64 x.f0, .int .i64 x.f1, .int .i64 x.f2.f0, .int .i64 x.f2.f1, .slice A4 x.f2.f2.length c4, .slice A5 x.f2.f3.length c5, .int .i64 x.f2.f4, .bool x.f2.f5] ∧ x.f2.f2.length ≤ c4 ∧ k_laws_Val.C w A4 x.f2.f2.length x.f2.f2 ∧ x.f2.f3.length ≤ c5 ∧ k_laws_Val.C w A5 x.f2.f3.length x.f2.f3 := by
  obtain ⟨_, _, rfl, rfl, ⟨_, _, rfl, rfl, s2⟩⟩ := h
  obtain ⟨A4, c4, A5, c5, rfl, l4, g4, l5, g5⟩ := k_laws_Call_open s2
  exact ⟨A4, c4, A5, c5, rfl, l4, g4, l5, g5⟩
theorem k_laws_Twin_openM {w : World} {base : Nat} {ok : Nat → Prop} {x : S_laws_Twin} {cs : List Value} (h : k_laws_Twin.M w base ok x cs) : ∃ v4 v5, cs = [.int .i64 x.f0, .int .i64 x.f1, .int .i64 x.f2.f0, .int .i64 x.f2.f1, v4, v5, .int .i64 x.f2.f4, .bool x.f2.f5] ∧ k_laws_Val.R 136 w base ok v4 x.f2.f2 ∧ k_laws_Val.R 136 w base ok v5 x.f2.f3 := by
  obtain ⟨_, _, rfl, rfl, ⟨_, _, rfl, rfl, s2⟩⟩ := h
  obtain ⟨v4, v5, rfl, g4, g5⟩ := k_laws_Call_openM s2
  exact ⟨v4, v5, rfl, g4, g5⟩
theorem k_laws_Twin_mk (w : World) (x : S_laws_Twin) {A4 : Option Addr} {c4 : Nat} (l4 : x.f2.f2.length ≤ c4) (g4 : k_laws_Val.C w A4 x.f2.f2.length x.f2.f2) {A5 : Option Addr} {c5 : Nat} (l5 : x.f2.f3.length ≤ c5) (g5 : k_laws_Val.C w A5 x.f2.f3.length x.f2.f3) : k_laws_Twin.K w x [.int .i64 x.f0, .int .i64 x.f1, .int .i64 x.f2.f0, .int .i64 x.f2.f1, .slice A4 x.f2.f2.length c4, .slice A5 x.f2.f3.length c5, .int .i64 x.f2.f4, .bool x.f2.f5] := ⟨[.int .i64 x.f0], [.int .i64 x.f1, .int .i64 x.f2.f0, .int .i64 x.f2.f1, .slice A4 x.f2.f2.length c4, .slice A5 x.f2.f3.length c5, .int .i64 x.f2.f4, .bool x.f2.f5], rfl, rfl, ⟨[.int .i64 x.f1], [.int .i64 x.f2.f0, .int .i64 x.f2.f1, .slice A4 x.f2.f2.length c4, .slice A5 x.f2.f3.length c5, .int .i64 x.f2.f4, .bool x.f2.f5], rfl, rfl, (k_laws_Call_mk w x.f2 l4 g4 l5 g5)⟩⟩
theorem k_laws_Twin_mkM (w : World) (base : Nat) (ok : Nat → Prop) (x : S_laws_Twin) {v4 : Value} (g4 : k_laws_Val.R 136 w base ok v4 x.f2.f2) {v5 : Value} (g5 : k_laws_Val.R 136 w base ok v5 x.f2.f3) : k_laws_Twin.M w base ok x [.int .i64 x.f0, .int .i64 x.f1, .int .i64 x.f2.f0, .int .i64 x.f2.f1, v4, v5, .int .i64 x.f2.f4, .bool x.f2.f5] := ⟨[.int .i64 x.f0], [.int .i64 x.f1, .int .i64 x.f2.f0, .int .i64 x.f2.f1, v4, v5, .int .i64 x.f2.f4, .bool x.f2.f5], rfl, rfl, ⟨[.int .i64 x.f1], [.int .i64 x.f2.f0, .int .i64 x.f2.f1, v4, v5, .int .i64 x.f2.f4, .bool x.f2.f5], rfl, rfl, (k_laws_Call_mkM w base ok x.f2 g4 g5)⟩⟩
theorem k_laws_Twin_openF {W : World} {ok : Nat → Prop} {x : S_laws_Twin} {cs : List Value} (h : Kd.FK k_laws_Twin W ok x cs) : ∃ A4 c4 A5 c5, cs = [.int .i64 x.f0, .int .i64 x.f1, .int .i64 x.f2.f0, .int .i64 x.f2.f1, .slice A4 x.f2.f2.length c4, .slice A5 x.f2.f3.length c5, .int .i64 x.f2.f4, .bool x.f2.f5] ∧ x.f2.f2.length ≤ c4 ∧ Kd.F k_laws_Val W ok A4 x.f2.f2.length x.f2.f2 ∧ x.f2.f3.length ≤ c5 ∧ Kd.F k_laws_Val W ok A5 x.f2.f3.length x.f2.f3 := by
  obtain ⟨A4, c4, A5, c5, rfl, l4, _, l5, _⟩ := k_laws_Twin_open (Kd.FK_now h)
  exact ⟨A4, c4, A5, c5, rfl, l4, (fun W' hW => by obtain ⟨A4_, c4_, A5_, c5_, he, l4_, g4_, l5_, g5_⟩ := k_laws_Twin_open (h W' hW); injection (Option.some.inj (show some (Value.slice A4 x.f2.f2.length c4) = some (Value.slice A4_ x.f2.f2.length c4_) from congrArg (fun l => l[4]?) he)) with ha_ _ _; rw [ha_]; exact g4_), l5, (fun W' hW => by obtain ⟨A4_, c4_, A5_, c5_, he, l4_, g4_, l5_, g5_⟩ := k_laws_Twin_open (h W' hW); injection (Option.some.inj (show some (Value.slice A5 x.f2.f3.length c5) = some (Value.slice A5_ x.f2.f3.length c5_) from congrArg (fun l => l[5]?) he)) with ha_ _ _; rw [ha_]; exact g5_)⟩
theorem k_laws_Twin_mkF (W : World) (ok : Nat → Prop) (x : S_laws_Twin) {A4 : Option Addr} {c4 : Nat} (l4 : x.f2.f2.length ≤ c4) (g4 : Kd.F k_laws_Val W ok A4 x.f2.f2.length x.f2.f2) {A5 : Option Addr} {c5 : Nat} (l5 : x.f2.f3.length ≤ c5) (g5 : Kd.F k_laws_Val W ok A5 x.f2.f3.length x.f2.f3) : Kd.FK k_laws_Twin W ok x [.int .i64 x.f0, .int .i64 x.f1, .int .i64 x.f2.f0, .int .i64 x.f2.f1, .slice A4 x.f2.f2.length c4, .slice A5 x.f2.f3.length c5, .int .i64 x.f2.f4, .bool x.f2.f5] := fun W2 hW => k_laws_Twin_mk W2 x l4 (g4 W2 hW) l5 (g5 W2 hW)
def rd_laws_Twin (xs : List S_laws_Twin) (i : Int) : S_laws_Twin := xs.getD i.toNat z_laws_Twin
theorem at_laws_Twin {w : World} {A : Option Addr} {n : Nat} {xs : List S_laws_Twin} (h : Kd.C k_laws_Twin w A n xs) (i : Int) (h0 : 0 ≤ i) (h1 : i < n) : ∃ ad A4 c4 A5 c5, A = some ad ∧ w.cell? (ad.add (i.toNat * 8)) = some (.int .i64 (rd_laws_Twin xs i).f0) ∧ w.cell? ⟨(ad.add (i.toNat * 8)).block, (ad.add (i.toNat * 8)).off + 1, none⟩ = some (.int .i64 (rd_laws_Twin xs i).f1) ∧ w.cell? ⟨(ad.add (i.toNat * 8)).block, (ad.add (i.toNat * 8)).off + 2, none⟩ = some (.int .i64 (rd_laws_Twin xs i).f2.f0) ∧ w.cell? ⟨(ad.add (i.toNat * 8)).block, (ad.add (i.toNat * 8)).off + 3, none⟩ = some (.int .i64 (rd_laws_Twin xs i).f2.f1) ∧ w.cell? ⟨(ad.add (i.toNat * 8)).block, (ad.add (i.toNat * 8)).off + 4, none⟩ = some (.slice A4 (rd_laws_Twin xs i).f2.f2.length c4) ∧ w.cell? ⟨(ad.add (i.toNat * 8)).block, (ad.add (i.toNat * 8)).off + 5, none⟩ = some (.slice A5 (rd_laws_Twin xs i).f2.f3.length c5) ∧ w.cell? ⟨(ad.add (i.toNat * 8)).block, (ad.add (i.toNat * 8)).off + 6, none⟩ = some (.int .i64 (rd_laws_Twin xs i).f2.f4) ∧ w.cell? ⟨(ad.add (i.toNat * 8)).block, (ad.add (i.toNat * 8)).off + 7, none⟩ = some (.bool (rd_laws_Twin xs i).f2.f5) ∧ (rd_laws_Twin xs i).f2.f2.length ≤ c4 ∧ k_laws_Val.C w A4 (rd_laws_Twin xs i).f2.f2.length (rd_laws_Twin xs i).f2.f2 ∧ (rd_laws_Twin xs i).f2.f3.length ≤ c5 ∧ k_laws_Val.C w A5 (rd_laws_Twin xs i).f2.f3.length (rd_laws_Twin xs i).f2.f3 := by
  obtain ⟨ad, c, e, _, hK, hc0⟩ := Kd.C_get h z_laws_Twin i h0 h1
  have hc : ∀ j u, c[j]? = some u → w.cell? (ad.add (i.toNat * 8 + j)) = some u := hc0
  obtain ⟨A4, c4, A5, c5, rfl, l4, g4, l5, g5⟩ := k_laws_Twin_open hK
  exact ⟨ad, A4, c4, A5, c5, e, hc 0 _ rfl, by rw [← add_field _ _ 1 (by omega)]; exact hc 1 _ rfl, by rw [← add_field _ _ 2 (by omega)]; exact hc 2 _ rfl, by rw [← add_field _ _ 3 (by omega)]; exact hc 3 _ rfl, by rw [← add_field _ _ 4 (by omega)]; exact hc 4 _ rfl, by rw [← add_field _ _ 5 (by omega)]; exact hc 5 _ rfl, by rw [← add_field _ _ 6 (by omega)]; exact hc 6 _ rfl, by rw [← add_field _ _ 7 (by omega)]; exact hc 7 _ rfl, l4, g4, l5, g5⟩
def rdl_s_laws_Twin (xs : List (List S_laws_Twin)) (i : Int) : (List S_laws_Twin) := xs.getD i.toNat ([] : List S_laws_Twin)
theorem atl_s_laws_Twin {w : World} {A : Option Addr} {n : Nat} {xs : List (List S_laws_Twin)} (h : Kd.C (Kd.slice 159 k_laws_Twin) w A n xs) (i : Int) (h0 : 0 ≤ i) (h1 : i < n) : ∃ ad A0 c0, A = some ad ∧ w.cell? (ad.add i.toNat) = some (.slice A0 (rdl_s_laws_Twin xs i).length c0) ∧ (rdl_s_laws_Twin xs i).length ≤ c0 ∧ k_laws_Twin.C w A0 (rdl_s_laws_Twin xs i).length (rdl_s_laws_Twin xs i) := by
  obtain ⟨ad, c, e, _, hK, hc0⟩ := Kd.C_get h ([] : List S_laws_Twin) i h0 h1
  have hc : ∀ j u, c[j]? = some u → w.cell? (ad.add (i.toNat * 1 + j)) = some u := hc0
  obtain ⟨A0, c0, rfl, l0, g0⟩ := hK
  exact ⟨ad, A0, c0, e, by have hq := hc 0 _ rfl; rwa [Nat.mul_one, Nat.add_zero] at hq, l0, g0⟩
structure S_laws_Mach where
  f0 : Int
  f1 : (List S_laws_Page)
  f2 : (List Int)
  f3 : Int
  f4 : (List S_laws_Twin)
  f5 : Int
  f6 : (List S_laws_Val)
  f7 : Int
def z_laws_Mach : S_laws_Mach := ⟨(0 : Int), ([] : List S_laws_Page), ([] : List Int), (0 : Int), ([] : List S_laws_Twin), (0 : Int), ([] : List S_laws_Val), (0 : Int)⟩
def k_laws_Mach : Kd S_laws_Mach := Kd.iso (Kd.pair (Kd.int .i64) (Kd.pair (Kd.slice 156 k_laws_Page) (Kd.pair (Kd.slice 3 (Kd.int .i64)) (Kd.pair (Kd.int .i64) (Kd.pair (Kd.slice 159 k_laws_Twin) (Kd.pair (Kd.int .i64) (Kd.pair (Kd.slice 136 k_laws_Val) (Kd.int .i64)))))))) (fun x : S_laws_Mach => (x.f0, x.f1, x.f2, x.f3, x.f4, x.f5, x.f6, x.f7))
theorem k_laws_Mach_open {w : World} {x : S_laws_Mach} {cs : List Value} (h : k_laws_Mach.K w x cs) : ∃ A1 c1 A2 c2 A4 c4 A6 c6, cs = [.int .i64 x.f0, .slice A1 x.f1.length c1, .slice A2 x.f2.length c2, .int .i64 x.f3, .slice A4 x.f4.length c4, .int .i64 x.f5, .slice A6 x.f6.length c6, .int .i64 x.f7] ∧ x.f1.length ≤ c1 ∧ k_laws_Page.C w A1 x.f1.length x.f1 ∧ x.f2.length ≤ c2 ∧ (Kd.int .i64).C w A2 x.f2.length x.f2 ∧ x.f4.length ≤ c4 ∧ k_laws_Twin.C w A4 x.f4.length x.f4 ∧ x.f6.length ≤ c6 ∧ k_laws_Val.C w A6 x.f6.length x.f6 := by
  obtain ⟨_, _, rfl, rfl, ⟨_, _, rfl, ⟨A1, c1, rfl, l1, g1⟩, ⟨_, _, rfl, ⟨A2, c2, rfl, l2, g2⟩, ⟨_, _, rfl, rfl, ⟨_, _, rfl, ⟨A4, c4, rfl, l4, g4⟩, ⟨_, _, rfl, rfl, ⟨_, _, rfl, ⟨A6, c6, rfl, l6, g6⟩, rfl⟩⟩⟩⟩⟩⟩⟩ := h
  exact ⟨A1, c1, A2, c2, A4, c4, A6, c6, rfl, l1, g1, l2, g2, l4, g4, l6, g6⟩
theorem k_laws_Mach_openM {w : World} {base : Nat} {ok : Nat → Prop} {x : S_laws_Mach} {cs : List Value} (h : k_laws_Mach.M w base ok x cs) : ∃ v1 v2 v4 v6, cs = [.int .i64 x.f0, v1, v2, .int .i64 x.f3, v4, .int .i64 x.f5, v6, .int .i64 x.f7] ∧ k_laws_Page.R 156 w base ok v1 x.f1 ∧ (Kd.int .i64).R 3 w base ok v2 x.f2 ∧ k_laws_Twin.R 159 w base ok v4 x.f4 ∧ k_laws_Val.R 136 w base ok v6 x.f6 := by
  obtain ⟨_, _, rfl, rfl, ⟨_, _, rfl, ⟨v1, rfl, g1⟩, ⟨_, _, rfl, ⟨v2, rfl, g2⟩, ⟨_, _, rfl, rfl, ⟨_, _, rfl, ⟨v4, rfl, g4⟩, ⟨_, _, rfl, rfl, ⟨_, _, rfl, ⟨v6, rfl, g6⟩, rfl⟩⟩⟩⟩⟩⟩⟩ := h
  exact ⟨v1, v2, v4, v6, rfl, g1, g2, g4, g6⟩
theorem k_laws_Mach_mk (w : World) (x : S_laws_Mach) {A1 : Option Addr} {c1 : Nat} (l1 : x.f1.length ≤ c1) (g1 : k_laws_Page.C w A1 x.f1.length x.f1) {A2 : Option Addr} {c2 : Nat} (l2 : x.f2.length ≤ c2) (g2 : (Kd.int .i64).C w A2 x.f2.length x.f2) {A4 : Option Addr} {c4 : Nat} (l4 : x.f4.length ≤ c4) (g4 : k_laws_Twin.C w A4 x.f4.length x.f4) {A6 : Option Addr} {c6 : Nat} (l6 : x.f6.length ≤ c6) (g6 : k_laws_Val.C w A6 x.f6.length x.f6) : k_laws_Mach.K w x [.int .i64 x.f0, .slice A1 x.f1.length c1, .slice A2 x.f2.length c2, .int .i64 x.f3, .slice A4 x.f4.length c4, .int .i64 x.f5, .slice A6 x.f6.length c6, .int .i64 x.f7] := ⟨[.int .i64 x.f0], [.slice A1 x.f1.length c1, .slice A2 x.f2.length c2, .int .i64 x.f3, .slice A4 x.f4.length c4, .int .i64 x.f5, .slice A6 x.f6.length c6, .int .i64 x.f7], rfl, rfl, ⟨[.slice A1 x.f1.length c1], [.slice A2 x.f2.length c2, .int .i64 x.f3, .slice A4 x.f4.length c4, .int .i64 x.f5, .slice A6 x.f6.length c6, .int .i64 x.f7], rfl, ⟨A1, c1, rfl, l1, g1⟩, ⟨[.slice A2 x.f2.length c2], [.int .i64 x.f3, .slice A4 x.f4.length c4, .int .i64 x.f5, .slice A6 x.f6.length c6, .int .i64 x.f7], rfl, ⟨A2, c2, rfl, l2, g2⟩, ⟨[.int .i64 x.f3], [.slice A4 x.f4.length c4, .int .i64 x.f5, .slice A6 x.f6.length c6, .int .i64 x.f7], rfl, rfl, ⟨[.slice A4 x.f4.length c4], [.int .i64 x.f5, .slice A6 x.f6.length c6, .int .i64 x.f7], rfl, ⟨A4, c4, rfl, l4, g4⟩, ⟨[.int .i64 x.f5], [.slice A6 x.f6.length c6, .int .i64 x.f7], rfl, rfl, ⟨[.slice A6 x.f6.length c6], [.int .i64 x.f7], rfl, ⟨A6, c6, rfl, l6, g6⟩, rfl⟩⟩⟩⟩⟩⟩⟩
theorem k_laws_Mach_mkM (w : World) (base : Nat) (ok : Nat → Prop) (x : S_laws_Mach) {v1 : Value} (g1 : k_laws_Page.R 156 w base ok v1 x.f1) {v2 : Value} (g2 : (Kd.int .i64).R 3 w base ok v2 x.f2) {v4 : Value} (g4 : k_laws_Twin.R 159 w base ok v4 x.f4) {v6 : Value} (g6 : k_laws_Val.R 136 w base ok v6 x.f6) : k_laws_Mach.M w base ok x [.int .i64 x.f0, v1, v2, .int .i64 x.f3, v4, .int .i64 x.f5, v6, .int .i64 x.f7] := ⟨[.int .i64 x.f0], [v1, v2, .int .i64 x.f3, v4, .int .i64 x.f5, v6, .int .i64 x.f7], rfl, rfl, ⟨[v1], [v2, .int .i64 x.f3, v4, .int .i64 x.f5, v6, .int .i64 x.f7], rfl, ⟨v1, rfl, g1⟩, ⟨[v2], [.int .i64 x.f3, v4, .int .i64 x.f5, v6, .int .i64 x.f7], rfl, ⟨v2, rfl, g2⟩, ⟨[.int .i64 x.f3], [v4, .int .i64 x.f5, v6, .int .i64 x.f7], rfl, rfl, ⟨[v4], [.int .i64 x.f5, v6, .int .i64 x.f7], rfl, ⟨v4, rfl, g4⟩, ⟨[.int .i64 x.f5], [v6, .int .i64 x.f7], rfl, rfl, ⟨[v6], [.int .i64 x.f7], rfl, ⟨v6, rfl, g6⟩, rfl⟩⟩⟩⟩⟩⟩⟩
theorem k_laws_Mach_openF {W : World} {ok : Nat → Prop} {x : S_laws_Mach} {cs : List Value} (h : Kd.FK k_laws_Mach W ok x cs) : ∃ A1 c1 A2 c2 A4 c4 A6 c6, cs = [.int .i64 x.f0, .slice A1 x.f1.length c1, .slice A2 x.f2.length c2, .int .i64 x.f3, .slice A4 x.f4.length c4, .int .i64 x.f5, .slice A6 x.f6.length c6, .int .i64 x.f7] ∧ x.f1.length ≤ c1 ∧ Kd.F k_laws_Page W ok A1 x.f1.length x.f1 ∧ x.f2.length ≤ c2 ∧ Kd.F (Kd.int .i64) W ok A2 x.f2.length x.f2 ∧ x.f4.length ≤ c4 ∧ Kd.F k_laws_Twin W ok A4 x.f4.length x.f4 ∧ x.f6.length ≤ c6 ∧ Kd.F k_laws_Val W ok A6 x.f6.length x.f6 := by
  obtain ⟨A1, c1, A2, c2, A4, c4, A6, c6, rfl, l1, _, l2, _, l4, _, l6, _⟩ := k_laws_Mach_open (Kd.FK_now h)
  exact ⟨A1, c1, A2, c2, A4, c4, A6, c6, rfl, l1, (fun W' hW => by obtain ⟨A1_, c1_, A2_, c2_, A4_, c4_, A6_, c6_, he, l1_, g1_, l2_, g2_, l4_, g4_, l6_, g6_⟩ := k_laws_Mach_open (h W' hW); injection (Option.some.inj (show some (Value.slice A1 x.f1.length c1) = some (Value.slice A1_ x.f1.length c1_) from congrArg (fun l => l[1]?) he)) with ha_ _ _; rw [ha_]; exact g1_), l2, (fun W' hW => by obtain ⟨A1_, c1_, A2_, c2_, A4_, c4_, A6_, c6_, he, l1_, g1_, l2_, g2_, l4_, g4_, l6_, g6_⟩ := k_laws_Mach_open (h W' hW); injection (Option.some.inj (show some (Value.slice A2 x.f2.length c2) = some (Value.slice A2_ x.f2.length c2_) from congrArg (fun l => l[2]?) he)) with ha_ _ _; rw [ha_]; exact g2_), l4, (fun W' hW => by obtain ⟨A1_, c1_, A2_, c2_, A4_, c4_, A6_, c6_, he, l1_, g1_, l2_, g2_, l4_, g4_, l6_, g6_⟩ := k_laws_Mach_open (h W' hW); injection (Option.some.inj (show some (Value.slice A4 x.f4.length c4) = some (Value.slice A4_ x.f4.length c4_) from congrArg (fun l => l[4]?) he)) with ha_ _ _; rw [ha_]; exact g4_), l6, (fun W' hW => by obtain ⟨A1_, c1_, A2_, c2_, A4_, c4_, A6_, c6_, he, l1_, g1_, l2_, g2_, l4_, g4_, l6_, g6_⟩ := k_laws_Mach_open (h W' hW); injection (Option.some.inj (show some (Value.slice A6 x.f6.length c6) = some (Value.slice A6_ x.f6.length c6_) from congrArg (fun l => l[6]?) he)) with ha_ _ _; rw [ha_]; exact g6_)⟩
theorem k_laws_Mach_mkF (W : World) (ok : Nat → Prop) (x : S_laws_Mach) {A1 : Option Addr} {c1 : Nat} (l1 : x.f1.length ≤ c1) (g1 : Kd.F k_laws_Page W ok A1 x.f1.length x.f1) {A2 : Option Addr} {c2 : Nat} (l2 : x.f2.length ≤ c2) (g2 : Kd.F (Kd.int .i64) W ok A2 x.f2.length x.f2) {A4 : Option Addr} {c4 : Nat} (l4 : x.f4.length ≤ c4) (g4 : Kd.F k_laws_Twin W ok A4 x.f4.length x.f4) {A6 : Option Addr} {c6 : Nat} (l6 : x.f6.length ≤ c6) (g6 : Kd.F k_laws_Val W ok A6 x.f6.length x.f6) : Kd.FK k_laws_Mach W ok x [.int .i64 x.f0, .slice A1 x.f1.length c1, .slice A2 x.f2.length c2, .int .i64 x.f3, .slice A4 x.f4.length c4, .int .i64 x.f5, .slice A6 x.f6.length c6, .int .i64 x.f7] := fun W2 hW => k_laws_Mach_mk W2 x l1 (g1 W2 hW) l2 (g2 W2 hW) l4 (g4 W2 hW) l6 (g6 W2 hW)
def rd_laws_Mach (xs : List S_laws_Mach) (i : Int) : S_laws_Mach := xs.getD i.toNat z_laws_Mach
theorem at_laws_Mach {w : World} {A : Option Addr} {n : Nat} {xs : List S_laws_Mach} (h : Kd.C k_laws_Mach w A n xs) (i : Int) (h0 : 0 ≤ i) (h1 : i < n) : ∃ ad A1 c1 A2 c2 A4 c4 A6 c6, A = some ad ∧ w.cell? (ad.add (i.toNat * 8)) = some (.int .i64 (rd_laws_Mach xs i).f0) ∧ w.cell? ⟨(ad.add (i.toNat * 8)).block, (ad.add (i.toNat * 8)).off + 1, none⟩ = some (.slice A1 (rd_laws_Mach xs i).f1.length c1) ∧ w.cell? ⟨(ad.add (i.toNat * 8)).block, (ad.add (i.toNat * 8)).off + 2, none⟩ = some (.slice A2 (rd_laws_Mach xs i).f2.length c2) ∧ w.cell? ⟨(ad.add (i.toNat * 8)).block, (ad.add (i.toNat * 8)).off + 3, none⟩ = some (.int .i64 (rd_laws_Mach xs i).f3) ∧ w.cell? ⟨(ad.add (i.toNat * 8)).block, (ad.add (i.toNat * 8)).off + 4, none⟩ = some (.slice A4 (rd_laws_Mach xs i).f4.length c4) ∧ w.cell? ⟨(ad.add (i.toNat * 8)).block, (ad.add (i.toNat * 8)).off + 5, none⟩ = some (.int .i64 (rd_laws_Mach xs i).f5) ∧ w.cell? ⟨(ad.add (i.toNat * 8)).block, (ad.add (i.toNat * 8)).off + 6, none⟩ = some (.slice A6 (rd_laws_Mach xs i).f6.length c6) ∧ w.cell? ⟨(ad.add (i.toNat * 8)).block, (ad.add (i.toNat * 8)).off + 7, none⟩ = some (.int .i64 (rd_laws_Mach xs i).f7) ∧ (rd_laws_Mach xs i).f1.length ≤ c1 ∧ k_laws_Page.C w A1 (rd_laws_Mach xs i).f1.length (rd_laws_Mach xs i).f1 ∧ (rd_laws_Mach xs i).f2.length ≤ c2 ∧ (Kd.int .i64).C w A2 (rd_laws_Mach xs i).f2.length (rd_laws_Mach xs i).f2 ∧ (rd_laws_Mach xs i).f4.length ≤ c4 ∧ k_laws_Twin.C w A4 (rd_laws_Mach xs i).f4.length (rd_laws_Mach xs i).f4 ∧ (rd_laws_Mach xs i).f6.length ≤ c6 ∧ k_laws_Val.C w A6 (rd_laws_Mach xs i).f6.length (rd_laws_Mach xs i).f6 := by
  obtain ⟨ad, c, e, _, hK, hc0⟩ := Kd.C_get h z_laws_Mach i h0 h1
  have hc : ∀ j u, c[j]? = some u → w.cell? (ad.add (i.toNat * 8 + j)) = some u := hc0
  obtain ⟨A1, c1, A2, c2, A4, c4, A6, c6, rfl, l1, g1, l2, g2, l4, g4, l6, g6⟩ := k_laws_Mach_open hK
  exact ⟨ad, A1, c1, A2, c2, A4, c4, A6, c6, e, hc 0 _ rfl, by rw [← add_field _ _ 1 (by omega)]; exact hc 1 _ rfl, by rw [← add_field _ _ 2 (by omega)]; exact hc 2 _ rfl, by rw [← add_field _ _ 3 (by omega)]; exact hc 3 _ rfl, by rw [← add_field _ _ 4 (by omega)]; exact hc 4 _ rfl, by rw [← add_field _ _ 5 (by omega)]; exact hc 5 _ rfl, by rw [← add_field _ _ 6 (by omega)]; exact hc 6 _ rfl, by rw [← add_field _ _ 7 (by omega)]; exact hc 7 _ rfl, l1, g1, l2, g2, l4, g4, l6, g6⟩
structure S_impl_Val where
  f0 : Int
  f1 : Int
def z_impl_Val : S_impl_Val := ⟨(0 : Int), (0 : Int)⟩
def k_impl_Val : Kd S_impl_Val := Kd.iso (Kd.pair (Kd.int .i64) (Kd.int .i64)) (fun x : S_impl_Val => (x.f0, x.f1))
theorem k_impl_Val_open {w : World} {x : S_impl_Val} {cs : List Value} (h : k_impl_Val.K w x cs) : cs = [.int .i64 x.f0, .int .i64 x.f1] := by
  obtain ⟨_, _, rfl, rfl, rfl⟩ := h
  exact rfl
theorem k_impl_Val_openM {w : World} {base : Nat} {ok : Nat → Prop} {x : S_impl_Val} {cs : List Value} (h : k_impl_Val.M w base ok x cs) : cs = [.int .i64 x.f0, .int .i64 x.f1] := by
  obtain ⟨_, _, rfl, rfl, rfl⟩ := h
  exact rfl
theorem k_impl_Val_mk (w : World) (x : S_impl_Val)  : k_impl_Val.K w x [.int .i64 x.f0, .int .i64 x.f1] := ⟨[.int .i64 x.f0], [.int .i64 x.f1], rfl, rfl, rfl⟩
theorem k_impl_Val_mkM (w : World) (base : Nat) (ok : Nat → Prop) (x : S_impl_Val)  : k_impl_Val.M w base ok x [.int .i64 x.f0, .int .i64 x.f1] := ⟨[.int .i64 x.f0], [.int .i64 x.f1], rfl, rfl, rfl⟩
theorem k_impl_Val_mkF (W : World) (ok : Nat → Prop) (x : S_impl_Val) : Kd.FK k_impl_Val W ok x [.int .i64 x.f0, .int .i64 x.f1] := fun W2 _ => k_impl_Val_mk W2 x
def rd_impl_Val (xs : List S_impl_Val) (i : Int) : S_impl_Val := xs.getD i.toNat z_impl_Val
theorem at_impl_Val {w : World} {A : Option Addr} {n : Nat} {xs : List S_impl_Val} (h : Kd.C k_impl_Val w A n xs) (i : Int) (h0 : 0 ≤ i) (h1 : i < n) : ∃ ad , A = some ad ∧ w.cell? (ad.add (i.toNat * 2)) = some (.int .i64 (rd_impl_Val xs i).f0) ∧ w.cell? ⟨(ad.add (i.toNat * 2)).block, (ad.add (i.toNat * 2)).off + 1, none⟩ = some (.int .i64 (rd_impl_Val xs i).f1) := by
  obtain ⟨ad, c, e, _, hK, hc0⟩ := Kd.C_get h z_impl_Val i h0 h1
  have hc : ∀ j u, c[j]? = some u → w.cell? (ad.add (i.toNat * 2 + j)) = some u := hc0
  obtain rfl := k_impl_Val_open hK
  exact ⟨ad, e, hc 0 _ rfl, by rw [← add_field _ _ 1 (by omega)]; exact hc 1 _ rfl⟩
def rdl_s_impl_Val (xs : List (List S_impl_Val)) (i : Int) : (List S_impl_Val) := xs.getD i.toNat ([] : List S_impl_Val)
theorem atl_s_impl_Val {w : World} {A : Option Addr} {n : Nat} {xs : List (List S_impl_Val)} (h : Kd.C (Kd.slice 134 k_impl_Val) w A n xs) (i : Int) (h0 : 0 ≤ i) (h1 : i < n) : ∃ ad A0 c0, A = some ad ∧ w.cell? (ad.add i.toNat) = some (.slice A0 (rdl_s_impl_Val xs i).length c0) ∧ (rdl_s_impl_Val xs i).length ≤ c0 ∧ k_impl_Val.C w A0 (rdl_s_impl_Val xs i).length (rdl_s_impl_Val xs i) := by
  obtain ⟨ad, c, e, _, hK, hc0⟩ := Kd.C_get h ([] : List S_impl_Val) i h0 h1
  have hc : ∀ j u, c[j]? = some u → w.cell? (ad.add (i.toNat * 1 + j)) = some u := hc0
  obtain ⟨A0, c0, rfl, l0, g0⟩ := hK
  exact ⟨ad, A0, c0, e, by have hq := hc 0 _ rfl; rwa [Nat.mul_one, Nat.add_zero] at hq, l0, g0⟩
structure S_impl_Call where
  f0 : Int
  f1 : Int
  f2 : (List S_impl_Val)
  f3 : (List S_impl_Val)
  f4 : Int
  f5 : Bool
def z_impl_Call : S_impl_Call := ⟨(0 : Int), (0 : Int), ([] : List S_impl_Val), ([] : List S_impl_Val), (0 : Int), false⟩
def k_impl_Call : Kd S_impl_Call := Kd.iso (Kd.pair (Kd.int .i64) (Kd.pair (Kd.int .i64) (Kd.pair (Kd.slice 134 k_impl_Val) (Kd.pair (Kd.slice 134 k_impl_Val) (Kd.pair (Kd.int .i64) Kd.bool))))) (fun x : S_impl_Call => (x.f0, x.f1, x.f2, x.f3, x.f4, x.f5))
theorem k_impl_Call_open {w : World} {x : S_impl_Call} {cs : List Value} (h : k_impl_Call.K w x cs) : ∃ A2 c2 A3 c3, cs = [.int .i64 x.f0, .int .i64 x.f1, .slice A2 x.f2.length c2, .slice A3 x.f3.length c3, .int .i64 x.f4, .bool x.f5] ∧ x.f2.length ≤ c2 ∧ k_impl_Val.C w A2 x.f2.length x.f2 ∧ x.f3.length ≤ c3 ∧ k_impl_Val.C w A3 x.f3.length x.f3 := by
  obtain ⟨_, _, rfl, rfl, ⟨_, _, rfl, rfl, ⟨_, _, rfl, ⟨A2, c2, rfl, l2, g2⟩, ⟨_, _, rfl, ⟨A3, c3, rfl, l3, g3⟩, ⟨_, _, rfl, rfl, rfl⟩⟩⟩⟩⟩ := h
  exact ⟨A2, c2, A3, c3, rfl, l2, g2, l3, g3⟩
theorem k_impl_Call_openM {w : World} {base : Nat} {ok : Nat → Prop} {x : S_impl_Call} {cs : List Value} (h : k_impl_Call.M w base ok x cs) : ∃ v2 v3, cs = [.int .i64 x.f0, .int .i64 x.f1, v2, v3, .int .i64 x.f4, .bool x.f5] ∧ k_impl_Val.R 134 w base ok v2 x.f2 ∧ k_impl_Val.R 134 w base ok v3 x.f3 := by
  obtain ⟨_, _, rfl, rfl, ⟨_, _, rfl, rfl, ⟨_, _, rfl, ⟨v2, rfl, g2⟩, ⟨_, _, rfl, ⟨v3, rfl, g3⟩, ⟨_, _, rfl, rfl, rfl⟩⟩⟩⟩⟩ := h
  exact ⟨v2, v3, rfl, g2, g3⟩
theorem k_impl_Call_mk (w : World) (x : S_impl_Call) {A2 : Option Addr} {c2 : Nat} (l2 : x.f2.length ≤ c2) (g2 : k_impl_Val.C w A2 x.f2.length x.f2) {A3 : Option Addr} {c3 : Nat} (l3 : x.f3.length ≤ c3) (g3 : k_impl_Val.C w A3 x.f3.length x.f3) : k_impl_Call.K w x [.int .i64 x.f0, .int .i64 x.f1, .slice A2 x.f2.length c2, .slice A3 x.f3.length c3, .int .i64 x.f4, .bool x.f5] := ⟨[.int .i64 x.f0], [.int .i64 x.f1, .slice A2 x.f2.length c2, .slice A3 x.f3.length c3, .int .i64 x.f4, .bool x.f5], rfl, rfl, ⟨[.int .i64 x.f1], [.slice A2 x.f2.length c2, .slice A3 x.f3.length c3, .int .i64 x.f4, .bool x.f5], rfl, rfl, ⟨[.slice A2 x.f2.length c2], [.slice A3 x.f3.length c3, .int .i64 x.f4, .bool x.f5], rfl, ⟨A2, c2, rfl, l2, g2⟩, ⟨[.slice A3 x.f3.length c3], [.int .i64 x.f4, .bool x.f5], rfl, ⟨A3, c3, rfl, l3, g3⟩, ⟨[.int .i64 x.f4], [.bool x.f5], rfl, rfl, rfl⟩⟩⟩⟩⟩
theorem k_impl_Call_mkM (w : World) (base : Nat) (ok : Nat → Prop) (x : S_impl_Call) {v2 : Value} (g2 : k_impl_Val.R 134 w base ok v2 x.f2) {v3 : Value} (g3 : k_impl_Val.R 134 w base ok v3 x.f3) : k_impl_Call.M w base ok x [.int .i64 x.f0, .int .i64 x.f1, v2, v3, .int .i64 x.f4, .bool x.f5] := ⟨[.int .i64 x.f0], [.int .i64 x.f1, v2, v3, .int .i64 x.f4, .bool x.f5], rfl, rfl, ⟨[.int .i64 x.f1], [v2, v3, .int .i64 x.f4, .bool x.f5], rfl, rfl, ⟨[v2], [v3, .int .i64 x.f4, .bool x.f5], rfl, ⟨v2, rfl, g2⟩, ⟨[v3], [.int .i64 x.f4, .bool x.f5], rfl, ⟨v3, rfl, g3⟩, ⟨[.int .i64 x.f4], [.bool x.f5], rfl, rfl, rfl⟩⟩⟩⟩⟩
theorem k_impl_Call_openF {W : World} {ok : Nat → Prop} {x : S_impl_Call} {cs : List Value} (h : Kd.FK k_impl_Call W ok x cs) : ∃ A2 c2 A3 c3, cs = [.int .i64 x.f0, .int .i64 x.f1, .slice A2 x.f2.length c2, .slice A3 x.f3.length c3, .int .i64 x.f4, .bool x.f5] ∧ x.f2.length ≤ c2 ∧ Kd.F k_impl_Val W ok A2 x.f2.length x.f2 ∧ x.f3.length ≤ c3 ∧ Kd.F k_impl_Val W ok A3 x.f3.length x.f3 := by
  obtain ⟨A2, c2, A3, c3, rfl, l2, _, l3, _⟩ := k_impl_Call_open (Kd.FK_now h)
  exact ⟨A2, c2, A3, c3, rfl, l2, (fun W' hW => by obtain ⟨A2_, c2_, A3_, c3_, he, l2_, g2_, l3_, g3_⟩ := k_impl_Call_open (h W' hW); injection (Option.some.inj (show some (Value.slice A2 x.f2.length c2) = some (Value.slice A2_ x.f2.length c2_) from congrArg (fun l => l[2]?) he)) with ha_ _ _; rw [ha_]; exact g2_), l3, (fun W' hW => by obtain ⟨A2_, c2_, A3_, c3_, he, l2_, g2_, l3_, g3_⟩ := k_impl_Call_open (h W' hW); injection (Option.some.inj (show some (Value.slice A3 x.f3.length c3) = some (Value.slice A3_ x.f3.length c3_) from congrArg (fun l => l[3]?) he)) with ha_ _ _; rw [ha_]; exact g3_)⟩
theorem k_impl_Call_mkF (W : World) (ok : Nat → Prop) (x : S_impl_Call) {A2 : Option Addr} {c2 : Nat} (l2 : x.f2.length ≤ c2) (g2 : Kd.F k_impl_Val W ok A2 x.f2.length x.f2) {A3 : Option Addr} {c3 : Nat} (l3 : x.f3.length ≤ c3) (g3 : Kd.F k_impl_Val W ok A3 x.f3.length x.f3) : Kd.FK k_impl_Call W ok x [.int .i64 x.f0, .int .i64 x.f1, .slice A2 x.f2.length c2, .slice A3 x.f3.length c3, .int .i64 x.f4, .bool x.f5] := fun W2 hW => k_impl_Call_mk W2 x l2 (g2 W2 hW) l3 (g3 W2 hW)
def rd_impl_Call (xs : List S_impl_Call) (i : Int) : S_impl_Call := xs.getD i.toNat z_impl_Call
theorem at_impl_Call {w : World} {A : Option Addr} {n : Nat} {xs : List S_impl_Call} (h : Kd.C k_impl_Call w A n xs) (i : Int) (h0 : 0 ≤ i) (h1 : i < n) : ∃ ad A2 c2 A3 c3, A = some ad ∧ w.cell? (ad.add (i.toNat * 6)) = some (.int .i64 (rd_impl_Call xs i).f0) ∧ w.cell? ⟨(ad.add (i.toNat * 6)).block, (ad.add (i.toNat * 6)).off + 1, none⟩ = some (.int .i64 (rd_impl_Call xs i).f1) ∧ w.cell? ⟨(ad.add (i.toNat * 6)).block, (ad.add (i.toNat * 6)).off + 2, none⟩ = some (.slice A2 (rd_impl_Call xs i).f2.length c2) ∧ w.cell? ⟨(ad.add (i.toNat * 6)).block, (ad.add (i.toNat * 6)).off + 3, none⟩ = some (.slice A3 (rd_impl_Call xs i).f3.length c3) ∧ w.cell? ⟨(ad.add (i.toNat * 6)).block, (ad.add (i.toNat * 6)).off + 4, none⟩ = some (.int .i64 (rd_impl_Call xs i).f4) ∧ w.cell? ⟨(ad.add (i.toNat * 6)).block, (ad.add (i.toNat * 6)).off + 5, none⟩ = some (.bool (rd_impl_Call xs i).f5) ∧ (rd_impl_Call xs i).f2.length ≤ c2 ∧ k_impl_Val.C w A2 (rd_impl_Call xs i).f2.length (rd_impl_Call xs i).f2 ∧ (rd_impl_Call xs i).f3.length ≤ c3 ∧ k_impl_Val.C w A3 (rd_impl_Call xs i).f3.length (rd_impl_Call xs i).f3 := by
  obtain ⟨ad, c, e, _, hK, hc0⟩ := Kd.C_get h z_impl_Call i h0 h1
  have hc : ∀ j u, c[j]? = some u → w.cell? (ad.add (i.toNat * 6 + j)) = some u := hc0
  obtain ⟨A2, c2, A3, c3, rfl, l2, g2, l3, g3⟩ := k_impl_Call_open hK
  exact ⟨ad, A2, c2, A3, c3, e, hc 0 _ rfl, by rw [← add_field _ _ 1 (by omega)]; exact hc 1 _ rfl, by rw [← add_field _ _ 2 (by omega)]; exact hc 2 _ rfl, by rw [← add_field _ _ 3 (by omega)]; exact hc 3 _ rfl, by rw [← add_field _ _ 4 (by omega)]; exact hc 4 _ rfl, by rw [← add_field _ _ 5 (by omega)]; exact hc 5 _ rfl, l2, g2, l3, g3⟩
structure S_impl_Op where
  f0 : Int
  f1 : Int
def z_impl_Op : S_impl_Op := ⟨(0 : Int), (0 : Int)⟩
def k_impl_Op : Kd S_impl_Op := Kd.iso (Kd.pair (Kd.int .i64) (Kd.int .i64)) (fun x : S_impl_Op => (x.f0, x.f1))
theorem k_impl_Op_open {w : World} {x : S_impl_Op} {cs : List Value} (h : k_impl_Op.K w x cs) : cs = [.int .i64 x.f0, .int .i64 x.f1] := by
  obtain ⟨_, _, rfl, rfl, rfl⟩ := h
  exact rfl
theorem k_impl_Op_openM {w : World} {base : Nat} {ok : Nat → Prop} {x : S_impl_Op} {cs : List Value} (h : k_impl_Op.M w base ok x cs) : cs = [.int .i64 x.f0, .int .i64 x.f1] := by
  obtain ⟨_, _, rfl, rfl, rfl⟩ := h
  exact rfl
theorem k_impl_Op_mk (w : World) (x : S_impl_Op)  : k_impl_Op.K w x [.int .i64 x.f0, .int .i64 x.f1] := ⟨[.int .i64 x.f0], [.int .i64 x.f1], rfl, rfl, rfl⟩
theorem k_impl_Op_mkM (w : World) (base : Nat) (ok : Nat → Prop) (x : S_impl_Op)  : k_impl_Op.M w base ok x [.int .i64 x.f0, .int .i64 x.f1] := ⟨[.int .i64 x.f0], [.int .i64 x.f1], rfl, rfl, rfl⟩
theorem k_impl_Op_mkF (W : World) (ok : Nat → Prop) (x : S_impl_Op) : Kd.FK k_impl_Op W ok x [.int .i64 x.f0, .int .i64 x.f1] := fun W2 _ => k_impl_Op_mk W2 x
def rd_impl_Op (xs : List S_impl_Op) (i : Int) : S_impl_Op := xs.getD i.toNat z_impl_Op
theorem at_impl_Op {w : World} {A : Option Addr} {n : Nat} {xs : List S_impl_Op} (h : Kd.C k_impl_Op w A n xs) (i : Int) (h0 : 0 ≤ i) (h1 : i < n) : ∃ ad , A = some ad ∧ w.cell? (ad.add (i.toNat * 2)) = some (.int .i64 (rd_impl_Op xs i).f0) ∧ w.cell? ⟨(ad.add (i.toNat * 2)).block, (ad.add (i.toNat * 2)).off + 1, none⟩ = some (.int .i64 (rd_impl_Op xs i).f1) := by
  obtain ⟨ad, c, e, _, hK, hc0⟩ := Kd.C_get h z_impl_Op i h0 h1
  have hc : ∀ j u, c[j]? = some u → w.cell? (ad.add (i.toNat * 2 + j)) = some u := hc0
  obtain rfl := k_impl_Op_open hK
  exact ⟨ad, e, hc 0 _ rfl, by rw [← add_field _ _ 1 (by omega)]; exact hc 1 _ rfl⟩
def rdl_s_impl_Op (xs : List (List S_impl_Op)) (i : Int) : (List S_impl_Op) := xs.getD i.toNat ([] : List S_impl_Op)
theorem atl_s_impl_Op {w : World} {A : Option Addr} {n : Nat} {xs : List (List S_impl_Op)} (h : Kd.C (Kd.slice 48 k_impl_Op) w A n xs) (i : Int) (h0 : 0 ≤ i) (h1 : i < n) : ∃ ad A0 c0, A = some ad ∧ w.cell? (ad.add i.toNat) = some (.slice A0 (rdl_s_impl_Op xs i).length c0) ∧ (rdl_s_impl_Op xs i).length ≤ c0 ∧ k_impl_Op.C w A0 (rdl_s_impl_Op xs i).length (rdl_s_impl_Op xs i) := by
  obtain ⟨ad, c, e, _, hK, hc0⟩ := Kd.C_get h ([] : List S_impl_Op) i h0 h1
  have hc : ∀ j u, c[j]? = some u → w.cell? (ad.add (i.toNat * 1 + j)) = some u := hc0
  obtain ⟨A0, c0, rfl, l0, g0⟩ := hK
  exact ⟨ad, A0, c0, e, by have hq := hc 0 _ rfl; rwa [Nat.mul_one, Nat.add_zero] at hq, l0, g0⟩
structure S_impl_Method where
  f0 : Int
  f1 : Int
  f2 : (List S_impl_Op)
def z_impl_Method : S_impl_Method := ⟨(0 : Int), (0 : Int), ([] : List S_impl_Op)⟩
def k_impl_Method : Kd S_impl_Method := Kd.iso (Kd.pair (Kd.int .i64) (Kd.pair (Kd.int .i64) (Kd.slice 48 k_impl_Op))) (fun x : S_impl_Method => (x.f0, x.f1, x.f2))
theorem k_impl_Method_open {w : World} {x : S_impl_Method} {cs : List Value} (h : k_impl_Method.K w x cs) : ∃ A2 c2, cs = [.int .i64 x.f0, .int .i64 x.f1, .slice A2 x.f2.length c2] ∧ x.f2.length ≤ c2 ∧ k_impl_Op.C w A2 x.f2.length x.f2 := by
  obtain ⟨_, _, rfl, rfl, ⟨_, _, rfl, rfl, ⟨A2, c2, rfl, l2, g2⟩⟩⟩ := h
  exact ⟨A2, c2, rfl, l2, g2⟩
theorem k_impl_Method_openM {w : World} {base : Nat} {ok : Nat → Prop} {x : S_impl_Method} {cs : List Value} (h : k_impl_Method.M w base ok x cs) : ∃ v2, cs = [.int .i64 x.f0, .int .i64 x.f1, v2] ∧ k_impl_Op.R 48 w base ok v2 x.f2 := by
  obtain ⟨_, _, rfl, rfl, ⟨_, _, rfl, rfl, ⟨v2, rfl, g2⟩⟩⟩ := h
  exact ⟨v2, rfl, g2⟩
theorem k_impl_Method_mk (w : World) (x : S_impl_Method) {A2 : Option Addr} {c2 : Nat} (l2 : x.f2.length ≤ c2) (g2 : k_impl_Op.C w A2 x.f2.length x.f2) : k_impl_Method.K w x [.int .i64 x.f0, .int .i64 x.f1, .slice A2 x.f2.length c2] := ⟨[.int .i64 x.f0], [.int .i64 x.f1, .slice A2 x.f2.length c2], rfl, rfl, ⟨[.int .i64 x.f1], [.slice A2 x.f2.length c2], rfl, rfl, ⟨A2, c2, rfl, l2, g2⟩⟩⟩
theorem k_impl_Method_mkM (w : World) (base : Nat) (ok : Nat → Prop) (x : S_impl_Method) {v2 : Value} (g2 : k_impl_Op.R 48 w base ok v2 x.f2) : k_impl_Method.M w base ok x [.int .i64 x.f0, .int .i64 x.f1, v2] := ⟨[.int .i64 x.f0], [.int .i64 x.f1, v2], rfl, rfl, ⟨[.int .i64 x.f1], [v2], rfl, rfl, ⟨v2, rfl, g2⟩⟩⟩
theorem k_impl_Method_openF {W : World} {ok : Nat → Prop} {x : S_impl_Method} {cs : List Value} (h : Kd.FK k_impl_Method W ok x cs) : ∃ A2 c2, cs = [.int .i64 x.f0, .int .i64 x.f1, .slice A2 x.f2.length c2] ∧ x.f2.length ≤ c2 ∧ Kd.F k_impl_Op W ok A2 x.f2.length x.f2 := by
  obtain ⟨A2, c2, rfl, l2, _⟩ := k_impl_Method_open (Kd.FK_now h)
  exact ⟨A2, c2, rfl, l2, (fun W' hW => by obtain ⟨A2_, c2_, he, l2_, g2_⟩ := k_impl_Method_open (h W' hW); injection (Option.some.inj (show some (Value.slice A2 x.f2.length c2) = some (Value.slice A2_ x.f2.length c2_) from congrArg (fun l => l[2]?) he)) with ha_ _ _; rw [ha_]; exact g2_)⟩
theorem k_impl_Method_mkF (W : World) (ok : Nat → Prop) (x : S_impl_Method) {A2 : Option Addr} {c2 : Nat} (l2 : x.f2.length ≤ c2) (g2 : Kd.F k_impl_Op W ok A2 x.f2.length x.f2) : Kd.FK k_impl_Method W ok x [.int .i64 x.f0, .int .i64 x.f1, .slice A2 x.f2.length c2] := fun W2 hW => k_impl_Method_mk W2 x l2 (g2 W2 hW)
def rd_impl_Method (xs : List S_impl_Method) (i : Int) : S_impl_Method := xs.getD i.toNat z_impl_Method
theorem at_impl_Method {w : World} {A : Option Addr} {n : Nat} {xs : List S_impl_Method} (h : Kd.C k_impl_Method w A n xs) (i : Int) (h0 : 0 ≤ i) (h1 : i < n) : ∃ ad A2 c2, A = some ad ∧ w.cell? (ad.add (i.toNat * 3)) = some (.int .i64 (rd_impl_Method xs i).f0) ∧ w.cell? ⟨(ad.add (i.toNat * 3)).block, (ad.add (i.toNat * 3)).off + 1, none⟩ = some (.int .i64 (rd_impl_Method xs i).f1) ∧ w.cell? ⟨(ad.add (i.toNat * 3)).block, (ad.add (i.toNat * 3)).off + 2, none⟩ = some (.slice A2 (rd_impl_Method xs i).f2.length c2) ∧ (rd_impl_Method xs i).f2.length ≤ c2 ∧ k_impl_Op.C w A2 (rd_impl_Method xs i).f2.length (rd_impl_Method xs i).f2 := by
  obtain ⟨ad, c, e, _, hK, hc0⟩ := Kd.C_get h z_impl_Method i h0 h1
  have hc : ∀ j u, c[j]? = some u → w.cell? (ad.add (i.toNat * 3 + j)) = some u := hc0
  obtain ⟨A2, c2, rfl, l2, g2⟩ := k_impl_Method_open hK
  exact ⟨ad, A2, c2, e, hc 0 _ rfl, by rw [← add_field _ _ 1 (by omega)]; exact hc 1 _ rfl, by rw [← add_field _ _ 2 (by omega)]; exact hc 2 _ rfl, l2, g2⟩
def rdl_s_impl_Method (xs : List (List S_impl_Method)) (i : Int) : (List S_impl_Method) := xs.getD i.toNat ([] : List S_impl_Method)
theorem atl_s_impl_Method {w : World} {A : Option Addr} {n : Nat} {xs : List (List S_impl_Method)} (h : Kd.C (Kd.slice 59 k_impl_Method) w A n xs) (i : Int) (h0 : 0 ≤ i) (h1 : i < n) : ∃ ad A0 c0, A = some ad ∧ w.cell? (ad.add i.toNat) = some (.slice A0 (rdl_s_impl_Method xs i).length c0) ∧ (rdl_s_impl_Method xs i).length ≤ c0 ∧ k_impl_Method.C w A0 (rdl_s_impl_Method xs i).length (rdl_s_impl_Method xs i) := by
  obtain ⟨ad, c, e, _, hK, hc0⟩ := Kd.C_get h ([] : List S_impl_Method) i h0 h1
  have hc : ∀ j u, c[j]? = some u → w.cell? (ad.add (i.toNat * 1 + j)) = some u := hc0
  obtain ⟨A0, c0, rfl, l0, g0⟩ := hK
  exact ⟨ad, A0, c0, e, by have hq := hc 0 _ rfl; rwa [Nat.mul_one, Nat.add_zero] at hq, l0, g0⟩
structure S_impl_Prog where
  f0 : (List S_impl_Method)
def z_impl_Prog : S_impl_Prog := ⟨([] : List S_impl_Method)⟩
def k_impl_Prog : Kd S_impl_Prog := Kd.iso (Kd.slice 59 k_impl_Method) (fun x : S_impl_Prog => x.f0)
theorem k_impl_Prog_open {w : World} {x : S_impl_Prog} {cs : List Value} (h : k_impl_Prog.K w x cs) : ∃ A0 c0, cs = [.slice A0 x.f0.length c0] ∧ x.f0.length ≤ c0 ∧ k_impl_Method.C w A0 x.f0.length x.f0 := by
  obtain ⟨A0, c0, rfl, l0, g0⟩ := h
  exact ⟨A0, c0, rfl, l0, g0⟩
theorem k_impl_Prog_openM {w : World} {base : Nat} {ok : Nat → Prop} {x : S_impl_Prog} {cs : List Value} (h : k_impl_Prog.M w base ok x cs) : ∃ v0, cs = [v0] ∧ k_impl_Method.R 59 w base ok v0 x.f0 := by
  obtain ⟨v0, rfl, g0⟩ := h
  exact ⟨v0, rfl, g0⟩
theorem k_impl_Prog_mk (w : World) (x : S_impl_Prog) {A0 : Option Addr} {c0 : Nat} (l0 : x.f0.length ≤ c0) (g0 : k_impl_Method.C w A0 x.f0.length x.f0) : k_impl_Prog.K w x [.slice A0 x.f0.length c0] := ⟨A0, c0, rfl, l0, g0⟩
theorem k_impl_Prog_mkM (w : World) (base : Nat) (ok : Nat → Prop) (x : S_impl_Prog) {v0 : Value} (g0 : k_impl_Method.R 59 w base ok v0 x.f0) : k_impl_Prog.M w base ok x [v0] := ⟨v0, rfl, g0⟩
theorem k_impl_Prog_openF {W : World} {ok : Nat → Prop} {x : S_impl_Prog} {cs : List Value} (h : Kd.FK k_impl_Prog W ok x cs) : ∃ A0 c0, cs = [.slice A0 x.f0.length c0] ∧ x.f0.length ≤ c0 ∧ Kd.F k_impl_Method W ok A0 x.f0.length x.f0 := by
  obtain ⟨A0, c0, rfl, l0, _⟩ := k_impl_Prog_open (Kd.FK_now h)
  exact ⟨A0, c0, rfl, l0, (fun W' hW => by obtain ⟨A0_, c0_, he, l0_, g0_⟩ := k_impl_Prog_open (h W' hW); injection (Option.some.inj (show some (Value.slice A0 x.f0.length c0) = some (Value.slice A0_ x.f0.length c0_) from congrArg (fun l => l[0]?) he)) with ha_ _ _; rw [ha_]; exact g0_)⟩
theorem k_impl_Prog_mkF (W : World) (ok : Nat → Prop) (x : S_impl_Prog) {A0 : Option Addr} {c0 : Nat} (l0 : x.f0.length ≤ c0) (g0 : Kd.F k_impl_Method W ok A0 x.f0.length x.f0) : Kd.FK k_impl_Prog W ok x [.slice A0 x.f0.length c0] := fun W2 hW => k_impl_Prog_mk W2 x l0 (g0 W2 hW)
def rd_impl_Prog (xs : List S_impl_Prog) (i : Int) : S_impl_Prog := xs.getD i.toNat z_impl_Prog
theorem at_impl_Prog {w : World} {A : Option Addr} {n : Nat} {xs : List S_impl_Prog} (h : Kd.C k_impl_Prog w A n xs) (i : Int) (h0 : 0 ≤ i) (h1 : i < n) : ∃ ad A0 c0, A = some ad ∧ w.cell? (ad.add i.toNat) = some (.slice A0 (rd_impl_Prog xs i).f0.length c0) ∧ (rd_impl_Prog xs i).f0.length ≤ c0 ∧ k_impl_Method.C w A0 (rd_impl_Prog xs i).f0.length (rd_impl_Prog xs i).f0 := by
  obtain ⟨ad, c, e, _, hK, hc0⟩ := Kd.C_get h z_impl_Prog i h0 h1
  have hc : ∀ j u, c[j]? = some u → w.cell? (ad.add (i.toNat * 1 + j)) = some u := hc0
  obtain ⟨A0, c0, rfl, l0, g0⟩ := k_impl_Prog_open hK
  exact ⟨ad, A0, c0, e, by have hq := hc 0 _ rfl; rwa [Nat.mul_one, Nat.add_zero] at hq, l0, g0⟩
structure S_impl_Frame where
  f0 : Int
  f1 : Int
  f2 : Int
  f3 : (List S_impl_Val)
  f4 : (List S_impl_Val)
def z_impl_Frame : S_impl_Frame := ⟨(0 : Int), (0 : Int), (0 : Int), ([] : List S_impl_Val), ([] : List S_impl_Val)⟩
def k_impl_Frame : Kd S_impl_Frame := Kd.iso (Kd.pair (Kd.int .i64) (Kd.pair (Kd.int .i64) (Kd.pair (Kd.int .i64) (Kd.pair (Kd.slice 134 k_impl_Val) (Kd.slice 134 k_impl_Val))))) (fun x : S_impl_Frame => (x.f0, x.f1, x.f2, x.f3, x.f4))
theorem k_impl_Frame_open {w : World} {x : S_impl_Frame} {cs : List Value} (h : k_impl_Frame.K w x cs) : ∃ A3 c3 A4 c4, cs = [.int .i64 x.f0, .int .i64 x.f1, .int .i64 x.f2, .slice A3 x.f3.length c3, .slice A4 x.f4.length c4] ∧ x.f3.length ≤ c3 ∧ k_impl_Val.C w A3 x.f3.length x.f3 ∧ x.f4.length ≤ c4 ∧ k_impl_Val.C w A4 x.f4.length x.f4 := by
  obtain ⟨_, _, rfl, rfl, ⟨_, _, rfl, rfl, ⟨_, _, rfl, rfl, ⟨_, _, rfl, ⟨A3, c3, rfl, l3, g3⟩, ⟨A4, c4, rfl, l4, g4⟩⟩⟩⟩⟩ := h
  exact ⟨A3, c3, A4, c4, rfl, l3, g3, l4, g4⟩
theorem k_impl_Frame_openM {w : World} {base : Nat} {ok : Nat → Prop} {x : S_impl_Frame} {cs : List Value} (h : k_impl_Frame.M w base ok x cs) : ∃ v3 v4, cs = [.int .i64 x.f0, .int .i64 x.f1, .int .i64 x.f2, v3, v4] ∧ k_impl_Val.R 134 w base ok v3 x.f3 ∧ k_impl_Val.R 134 w base ok v4 x.f4 := by
  obtain ⟨_, _, rfl, rfl, ⟨_, _, rfl, rfl, ⟨_, _, rfl, rfl, ⟨_, _, rfl, ⟨v3, rfl, g3⟩, ⟨v4, rfl, g4⟩⟩⟩⟩⟩ := h
  exact ⟨v3, v4, rfl, g3, g4⟩
theorem k_impl_Frame_mk (w : World) (x : S_impl_Frame) {A3 : Option Addr} {c3 : Nat} (l3 : x.f3.length ≤ c3) (g3 : k_impl_Val.C w A3 x.f3.length x.f3) {A4 : Option Addr} {c4 : Nat} (l4 : x.f4.length ≤ c4) (g4 : k_impl_Val.C w A4 x.f4.length x.f4) : k_impl_Frame.K w x [.int .i64 x.f0, .int .i64 x.f1, .int .i64 x.f2, .slice A3 x.f3.length c3, .slice A4 x.f4.length c4] := ⟨[.int .i64 x.f0], [.int .i64 x.f1, .int .i64 x.f2, .slice A3 x.f3.length c3, .slice A4 x.f4.length c4], rfl, rfl, ⟨[.int .i64 x.f1], [.int .i64 x.f2, .slice A3 x.f3.length c3, .slice A4 x.f4.length c4], rfl, rfl, ⟨[.int .i64 x.f2], [.slice A3 x.f3.length c3, .slice A4 x.f4.length c4], rfl, rfl, ⟨[.slice A3 x.f3.length c3], [.slice A4 x.f4.length c4], rfl, ⟨A3, c3, rfl, l3, g3⟩, ⟨A4, c4, rfl, l4, g4⟩⟩⟩⟩⟩
theorem k_impl_Frame_mkM (w : World) (base : Nat) (ok : Nat → Prop) (x : S_impl_Frame) {v3 : Value} (g3 : k_impl_Val.R 134 w base ok v3 x.f3) {v4 : Value} (g4 : k_impl_Val.R 134 w base ok v4 x.f4) : k_impl_Frame.M w base ok x [.int .i64 x.f0, .int .i64 x.f1, .int .i64 x.f2, v3, v4] := ⟨[.int .i64 x.f0], [.int .i64 x.f1, .int .i64 x.f2, v3, v4], rfl, rfl, ⟨[.int .i64 x.f1], [.int .i64 x.f2, v3, v4], rfl, rfl, ⟨[.int .i64 x.f2], [v3, v4], rfl, rfl, ⟨[v3], [v4], rfl, ⟨v3, rfl, g3⟩, ⟨v4, rfl, g4⟩⟩⟩⟩⟩
theorem k_impl_Frame_openF {W : World} {ok : Nat → Prop} {x : S_impl_Frame} {cs : List Value} (h : Kd.FK k_impl_Frame W ok x cs) : ∃ A3 c3 A4 c4, cs = [.int .i64 x.f0, .int .i64 x.f1, .int .i64 x.f2, .slice A3 x.f3.length c3, .slice A4 x.f4.length c4] ∧ x.f3.length ≤ c3 ∧ Kd.F k_impl_Val W ok A3 x.f3.length x.f3 ∧ x.f4.length ≤ c4 ∧ Kd.F k_impl_Val W ok A4 x.f4.length x.f4 := by
  obtain ⟨A3, c3, A4, c4, rfl, l3, _, l4, _⟩ := k_impl_Frame_open (Kd.FK_now h)
  exact ⟨A3, c3, A4, c4, rfl, l3, (fun W' hW => by obtain ⟨A3_, c3_, A4_, c4_, he, l3_, g3_, l4_, g4_⟩ := k_impl_Frame_open (h W' hW); injection (Option.some.inj (show some (Value.slice A3 x.f3.length c3) = some (Value.slice A3_ x.f3.length c3_) from congrArg (fun l => l[3]?) he)) with ha_ _ _; rw [ha_]; exact g3_), l4, (fun W' hW => by obtain ⟨A3_, c3_, A4_, c4_, he, l3_, g3_, l4_, g4_⟩ := k_impl_Frame_open (h W' hW); injection (Option.some.inj (show some (Value.slice A4 x.f4.length c4) = some (Value.slice A4_ x.f4.length c4_) from congrArg (fun l => l[4]?) he)) with ha_ _ _; rw [ha_]; exact g4_)⟩
theorem k_impl_Frame_mkF (W : World) (ok : Nat → Prop) (x : S_impl_Frame) {A3 : Option Addr} {c3 : Nat} (l3 : x.f3.length ≤ c3) (g3 : Kd.F k_impl_Val W ok A3 x.f3.length x.f3) {A4 : Option Addr} {c4 : Nat} (l4 : x.f4.length ≤ c4) (g4 : Kd.F k_impl_Val W ok A4 x.f4.length x.f4) : Kd.FK k_impl_Frame W ok x [.int .i64 x.f0, .int .i64 x.f1, .int .i64 x.f2, .slice A3 x.f3.length c3, .slice A4 x.f4.length c4] := fun W2 hW => k_impl_Frame_mk W2 x l3 (g3 W2 hW) l4 (g4 W2 hW)
def rd_impl_Frame (xs : List S_impl_Frame) (i : Int) : S_impl_Frame := xs.getD i.toNat z_impl_Frame
theorem at_impl_Frame {w : World} {A : Option Addr} {n : Nat} {xs : List S_impl_Frame} (h : Kd.C k_impl_Frame w A n xs) (i : Int) (h0 : 0 ≤ i) (h1 : i < n) : ∃ ad A3 c3 A4 c4, A = some ad ∧ w.cell? (ad.add (i.toNat * 5)) = some (.int .i64 (rd_impl_Frame xs i).f0) ∧ w.cell? ⟨(ad.add (i.toNat * 5)).block, (ad.add (i.toNat * 5)).off + 1, none⟩ = some (.int .i64 (rd_impl_Frame xs i).f1) ∧ w.cell? ⟨(ad.add (i.toNat * 5)).block, (ad.add (i.toNat * 5)).off + 2, none⟩ = some (.int .i64 (rd_impl_Frame xs i).f2) ∧ w.cell? ⟨(ad.add (i.toNat * 5)).block, (ad.add (i.toNat * 5)).off + 3, none⟩ = some (.slice A3 (rd_impl_Frame xs i).f3.length c3) ∧ w.cell? ⟨(ad.add (i.toNat * 5)).block, (ad.add (i.toNat * 5)).off + 4, none⟩ = some (.slice A4 (rd_impl_Frame xs i).f4.length c4) ∧ (rd_impl_Frame xs i).f3.length ≤ c3 ∧ k_impl_Val.C w A3 (rd_impl_Frame xs i).f3.length (rd_impl_Frame xs i).f3 ∧ (rd_impl_Frame xs i).f4.length ≤ c4 ∧ k_impl_Val.C w A4 (rd_impl_Frame xs i).f4.length (rd_impl_Frame xs i).f4 := by
  obtain ⟨ad, c, e, _, hK, hc0⟩ := Kd.C_get h z_impl_Frame i h0 h1
  have hc : ∀ j u, c[j]? = some u → w.cell? (ad.add (i.toNat * 5 + j)) = some u := hc0
  obtain ⟨A3, c3, A4, c4, rfl, l3, g3, l4, g4⟩ := k_impl_Frame_open hK
  exact ⟨ad, A3, c3, A4, c4, e, hc 0 _ rfl, by rw [← add_field _ _ 1 (by omega)]; exact hc 1 _ rfl, by rw [← add_field _ _ 2 (by omega)]; exact hc 2 _ rfl, by rw [← add_field _ _ 3 (by omega)]; exact hc 3 _ rfl, by rw [← add_field _ _ 4 (by omega)]; exact hc 4 _ rfl, l3, g3, l4, g4⟩
def rdl_s_impl_Frame (xs : List (List S_impl_Frame)) (i : Int) : (List S_impl_Frame) := xs.getD i.toNat ([] : List S_impl_Frame)
theorem atl_s_impl_Frame {w : World} {A : Option Addr} {n : Nat} {xs : List (List S_impl_Frame)} (h : Kd.C (Kd.slice 184 k_impl_Frame) w A n xs) (i : Int) (h0 : 0 ≤ i) (h1 : i < n) : ∃ ad A0 c0, A = some ad ∧ w.cell? (ad.add i.toNat) = some (.slice A0 (rdl_s_impl_Frame xs i).length c0) ∧ (rdl_s_impl_Frame xs i).length ≤ c0 ∧ k_impl_Frame.C w A0 (rdl_s_impl_Frame xs i).length (rdl_s_impl_Frame xs i) := by
  obtain ⟨ad, c, e, _, hK, hc0⟩ := Kd.C_get h ([] : List S_impl_Frame) i h0 h1
  have hc : ∀ j u, c[j]? = some u → w.cell? (ad.add (i.toNat * 1 + j)) = some u := hc0
  obtain ⟨A0, c0, rfl, l0, g0⟩ := hK
  exact ⟨ad, A0, c0, e, by have hq := hc 0 _ rfl; rwa [Nat.mul_one, Nat.add_zero] at hq, l0, g0⟩
structure S_impl_Page where
  f0 : Int
  f1 : (List S_impl_Frame)
def z_impl_Page : S_impl_Page := ⟨(0 : Int), ([] : List S_impl_Frame)⟩
def k_impl_Page : Kd S_impl_Page := Kd.iso (Kd.pair (Kd.int .i64) (Kd.slice 184 k_impl_Frame)) (fun x : S_impl_Page => (x.f0, x.f1))
theorem k_impl_Page_open {w : World} {x : S_impl_Page} {cs : List Value} (h : k_impl_Page.K w x cs) : ∃ A1 c1, cs = [.int .i64 x.f0, .slice A1 x.f1.length c1] ∧ x.f1.length ≤ c1 ∧ k_impl_Frame.C w A1 x.f1.length x.f1 := by
  obtain ⟨_, _, rfl, rfl, ⟨A1, c1, rfl, l1, g1⟩⟩ := h
  exact ⟨A1, c1, rfl, l1, g1⟩
theorem k_impl_Page_openM {w : World} {base : Nat} {ok : Nat → Prop} {x : S_impl_Page} {cs : List Value} (h : k_impl_Page.M w base ok x cs) : ∃ v1, cs = [.int .i64 x.f0, v1] ∧ k_impl_Frame.R 184 w base ok v1 x.f1 := by
  obtain ⟨_, _, rfl, rfl, ⟨v1, rfl, g1⟩⟩ := h
  exact ⟨v1, rfl, g1⟩
theorem k_impl_Page_mk (w : World) (x : S_impl_Page) {A1 : Option Addr} {c1 : Nat} (l1 : x.f1.length ≤ c1) (g1 : k_impl_Frame.C w A1 x.f1.length x.f1) : k_impl_Page.K w x [.int .i64 x.f0, .slice A1 x.f1.length c1] := ⟨[.int .i64 x.f0], [.slice A1 x.f1.length c1], rfl, rfl, ⟨A1, c1, rfl, l1, g1⟩⟩
theorem k_impl_Page_mkM (w : World) (base : Nat) (ok : Nat → Prop) (x : S_impl_Page) {v1 : Value} (g1 : k_impl_Frame.R 184 w base ok v1 x.f1) : k_impl_Page.M w base ok x [.int .i64 x.f0, v1] := ⟨[.int .i64 x.f0], [v1], rfl, rfl, ⟨v1, rfl, g1⟩⟩
theorem k_impl_Page_openF {W : World} {ok : Nat → Prop} {x : S_impl_Page} {cs : List Value} (h : Kd.FK k_impl_Page W ok x cs) : ∃ A1 c1, cs = [.int .i64 x.f0, .slice A1 x.f1.length c1] ∧ x.f1.length ≤ c1 ∧ Kd.F k_impl_Frame W ok A1 x.f1.length x.f1 := by
  obtain ⟨A1, c1, rfl, l1, _⟩ := k_impl_Page_open (Kd.FK_now h)
  exact ⟨A1, c1, rfl, l1, (fun W' hW => by obtain ⟨A1_, c1_, he, l1_, g1_⟩ := k_impl_Page_open (h W' hW); injection (Option.some.inj (show some (Value.slice A1 x.f1.length c1) = some (Value.slice A1_ x.f1.length c1_) from congrArg (fun l => l[1]?) he)) with ha_ _ _; rw [ha_]; exact g1_)⟩
theorem k_impl_Page_mkF (W : World) (ok : Nat → Prop) (x : S_impl_Page) {A1 : Option Addr} {c1 : Nat} (l1 : x.f1.length ≤ c1) (g1 : Kd.F k_impl_Frame W ok A1 x.f1.length x.f1) : Kd.FK k_impl_Page W ok x [.int .i64 x.f0, .slice A1 x.f1.length c1] := fun W2 hW => k_impl_Page_mk W2 x l1 (g1 W2 hW)
def rd_impl_Page (xs : List S_impl_Page) (i : Int) : S_impl_Page := xs.getD i.toNat z_impl_Page
theorem at_impl_Page {w : World} {A : Option Addr} {n : Nat} {xs : List S_impl_Page} (h : Kd.C k_impl_Page w A n xs) (i : Int) (h0 : 0 ≤ i) (h1 : i < n) : ∃ ad A1 c1, A = some ad ∧ w.cell? (ad.add (i.toNat * 2)) = some (.int .i64 (rd_impl_Page xs i).f0) ∧ w.cell? ⟨(ad.add (i.toNat * 2)).block, (ad.add (i.toNat * 2)).off + 1, none⟩ = some (.slice A1 (rd_impl_Page xs i).f1.length c1) ∧ (rd_impl_Page xs i).f1.length ≤ c1 ∧ k_impl_Frame.C w A1 (rd_impl_Page xs i).f1.length (rd_impl_Page xs i).f1 := by
  obtain ⟨ad, c, e, _, hK, hc0⟩ := Kd.C_get h z_impl_Page i h0 h1
  have hc : ∀ j u, c[j]? = some u → w.cell? (ad.add (i.toNat * 2 + j)) = some u := hc0
  obtain ⟨A1, c1, rfl, l1, g1⟩ := k_impl_Page_open hK
  exact ⟨ad, A1, c1, e, hc 0 _ rfl, by rw [← add_field _ _ 1 (by omega)]; exact hc 1 _ rfl, l1, g1⟩
structure S_impl_Twin where
  f0 : Int
  f1 : Int
  f2 : S_impl_Call
def z_impl_Twin : S_impl_Twin := ⟨(0 : Int), (0 : Int), z_impl_Call⟩
def k_impl_Twin : Kd S_impl_Twin := Kd.iso (Kd.pair (Kd.int .i64) (Kd.pair (Kd.int .i64) k_impl_Call)) (fun x : S_impl_Twin => (x.f0, x.f1, x.f2))
theorem k_impl_Twin_open {w : World} {x : S_impl_Twin} {cs : List Value} (h : k_impl_Twin.K w x cs) : ∃ A4 c4 A5 c5, cs = [.int .i64 x.f0, .int .i64 x.f1, .int .i64 x.f2.f0, .int .i64 x.f2.f1, .slice A4 x.f2.f2.length c4, .slice A5 x.f2.f3.length c5, .int .i64 x.f2.f4, .bool x.f2.f5] ∧ x.f2.f2.length ≤ c4 ∧ k_impl_Val.C w A4 x.f2.f2.length x.f2.f2 ∧ x.f2.f3.length ≤ c5 ∧ k_impl_Val.C w A5 x.f2.f3.length x.f2.f3 := by
  obtain ⟨_, _, rfl, rfl, ⟨_, _, rfl, rfl, s2⟩⟩ := h
  obtain ⟨A4, c4, A5, c5, rfl, l4, g4, l5, g5⟩ := k_impl_Call_open s2
  exact ⟨A4, c4, A5, c5, rfl, l4, g4, l5, g5⟩
theorem k_impl_Twin_openM {w : World} {base : Nat} {ok : Nat → Prop} {x : S_impl_Twin} {cs : List Value} (h : k_impl_Twin.M w base ok x cs) : ∃ v4 v5, cs = [.int .i64 x.f0, .int .i64 x.f1, .int .i64 x.f2.f0, .int .i64 x.f2.f1, v4, v5, .int .i64 x.f2.f4, .bool x.f2.f5] ∧ k_impl_Val.R 134 w base ok v4 x.f2.f2 ∧ k_impl_Val.R 134 w base ok v5 x.f2.f3 := by
  obtain ⟨_, _, rfl, rfl, ⟨_, _, rfl, rfl, s2⟩⟩ := h
  obtain ⟨v4, v5, rfl, g4, g5⟩ := k_impl_Call_openM s2
  exact ⟨v4, v5, rfl, g4, g5⟩
theorem k_impl_Twin_mk (w : World) (x : S_impl_Twin) {A4 : Option Addr} {c4 : Nat} (l4 : x.f2.f2.length ≤ c4) (g4 : k_impl_Val.C w A4 x.f2.f2.length x.f2.f2) {A5 : Option Addr} {c5 : Nat} (l5 : x.f2.f3.length ≤ c5) (g5 : k_impl_Val.C w A5 x.f2.f3.length x.f2.f3) : k_impl_Twin.K w x [.int .i64 x.f0, .int .i64 x.f1, .int .i64 x.f2.f0, .int .i64 x.f2.f1, .slice A4 x.f2.f2.length c4, .slice A5 x.f2.f3.length c5, .int .i64 x.f2.f4, .bool x.f2.f5] := ⟨[.int .i64 x.f0], [.int .i64 x.f1, .int .i64 x.f2.f0, .int .i64 x.f2.f1, .slice A4 x.f2.f2.length c4, .slice A5 x.f2.f3.length c5, .int .i64 x.f2.f4, .bool x.f2.f5], rfl, rfl, ⟨[.int .i64 x.f1], [.int .i64 x.f2.f0, .int .i64 x.f2.f1, .slice A4 x.f2.f2.length c4, .slice A5 x.f2.f3.length c5, .int .i64 x.f2.f4, .bool x.f2.f5], rfl, rfl, (k_impl_Call_mk w x.f2 l4 g4 l5 g5)⟩⟩
theorem k_impl_Twin_mkM (w : World) (base : Nat) (ok : Nat → Prop) (x : S_impl_Twin) {v4 : Value} (g4 : k_impl_Val.R 134 w base ok v4 x.f2.f2) {v5 : Value} (g5 : k_impl_Val.R 134 w base ok v5 x.f2.f3) : k_impl_Twin.M w base ok x [.int .i64 x.f0, .int .i64 x.f1, .int .i64 x.f2.f0, .int .i64 x.f2.f1, v4, v5, .int .i64 x.f2.f4, .bool x.f2.f5] := ⟨[.int .i64 x.f0], [.int .i64 x.f1, .int .i64 x.f2.f0, .int .i64 x.f2.f1, v4, v5, .int .i64 x.f2.f4, .bool x.f2.f5], rfl, rfl, ⟨[.int .i64 x.f1], [.int .i64 x.f2.f0, .int .i64 x.f2.f1, v4, v5, .int .i64 x.f2.f4, .bool x.f2.f5], rfl, rfl, (k_impl_Call_mkM w base ok x.f2 g4 g5)⟩⟩
theorem k_impl_Twin_openF {W : World} {ok : Nat → Prop} {x : S_impl_Twin} {cs : List Value} (h : Kd.FK k_impl_Twin W ok x cs) : ∃ A4 c4 A5 c5, cs = [.int .i64 x.f0, .int .i64 x.f1, .int .i64 x.f2.f0, .int .i64 x.f2.f1, .slice A4 x.f2.f2.length c4, .slice A5 x.f2.f3.length c5, .int .i64 x.f2.f4, .bool x.f2.f5] ∧ x.f2.f2.length ≤ c4 ∧ Kd.F k_impl_Val W ok A4 x.f2.f2.length x.f2.f2 ∧ x.f2.f3.length ≤ c5 ∧ Kd.F k_impl_Val W ok A5 x.f2.f3.length x.f2.f3 := by
  obtain ⟨A4, c4, A5, c5, rfl, l4, _, l5, _⟩ := k_impl_Twin_open (Kd.FK_now h)
  exact ⟨A4, c4, A5, c5, rfl, l4, (fun W' hW => by obtain ⟨A4_, c4_, A5_, c5_, he, l4_, g4_, l5_, g5_⟩ := k_impl_Twin_open (h W' hW); injection (Option.some.inj (show some (Value.slice A4 x.f2.f2.length c4) = some (Value.slice A4_ x.f2.f2.length c4_) from congrArg (fun l => l[4]?) he)) with ha_ _ _; rw [ha_]; exact g4_), l5, (fun W' hW => by obtain ⟨A4_, c4_, A5_, c5_, he, l4_, g4_, l5_, g5_⟩ := k_impl_Twin_open (h W' hW); injection (Option.some.inj (show some (Value.slice A5 x.f2.f3.length c5) = some (Value.slice A5_ x.f2.f3.length c5_) from congrArg (fun l => l[5]?) he)) with ha_ _ _; rw [ha_]; exact g5_)⟩
theorem k_impl_Twin_mkF (W : World) (ok : Nat → Prop) (x : S_impl_Twin) {A4 : Option Addr} {c4 : Nat} (l4 : x.f2.f2.length ≤ c4) (g4 : Kd.F k_impl_Val W ok A4 x.f2.f2.length x.f2.f2) {A5 : Option Addr} {c5 : Nat} (l5 : x.f2.f3.length ≤ c5) (g5 : Kd.F k_impl_Val W ok A5 x.f2.f3.length x.f2.f3) : Kd.FK k_impl_Twin W ok x [.int .i64 x.f0, .int .i64 x.f1, .int .i64 x.f2.f0, .int .i64 x.f2.f1, .slice A4 x.f2.f2.length c4, .slice A5 x.f2.f3.length c5, .int .i64 x.f2.f4, .bool x.f2.f5] := fun W2 hW => k_impl_Twin_mk W2 x l4 (g4 W2 hW) l5 (g5 W2 hW)
def rd_impl_Twin (xs : List S_impl_Twin) (i : Int) : S_impl_Twin := xs.getD i.toNat z_impl_Twin
theorem at_impl_Twin {w : World} {A : Option Addr} {n : Nat} {xs : List S_impl_Twin} (h : Kd.C k_impl_Twin w A n xs) (i : Int) (h0 : 0 ≤ i) (h1 : i < n) : ∃ ad A4 c4 A5 c5, A = some ad ∧ w.cell? (ad.add (i.toNat * 8)) = some (.int .i64 (rd_impl_Twin xs i).f0) ∧ w.cell? ⟨(ad.add (i.toNat * 8)).block, (ad.add (i.toNat * 8)).off + 1, none⟩ = some (.int .i64 (rd_impl_Twin xs i).f1) ∧ w.cell? ⟨(ad.add (i.toNat * 8)).block, (ad.add (i.toNat * 8)).off + 2, none⟩ = some (.int .i64 (rd_impl_Twin xs i).f2.f0) ∧ w.cell? ⟨(ad.add (i.toNat * 8)).block, (ad.add (i.toNat * 8)).off + 3, none⟩ = some (.int .i64 (rd_impl_Twin xs i).f2.f1) ∧ w.cell? ⟨(ad.add (i.toNat * 8)).block, (ad.add (i.toNat * 8)).off + 4, none⟩ = some (.slice A4 (rd_impl_Twin xs i).f2.f2.length c4) ∧ w.cell? ⟨(ad.add (i.toNat * 8)).block, (ad.add (i.toNat * 8)).off + 5, none⟩ = some (.slice A5 (rd_impl_Twin xs i).f2.f3.length c5) ∧ w.cell? ⟨(ad.add (i.toNat * 8)).block, (ad.add (i.toNat * 8)).off + 6, none⟩ = some (.int .i64 (rd_impl_Twin xs i).f2.f4) ∧ w.cell? ⟨(ad.add (i.toNat * 8)).block, (ad.add (i.toNat * 8)).off + 7, none⟩ = some (.bool (rd_impl_Twin xs i).f2.f5) ∧ (rd_impl_Twin xs i).f2.f2.length ≤ c4 ∧ k_impl_Val.C w A4 (rd_impl_Twin xs i).f2.f2.length (rd_impl_Twin xs i).f2.f2 ∧ (rd_impl_Twin xs i).f2.f3.length ≤ c5 ∧ k_impl_Val.C w A5 (rd_impl_Twin xs i).f2.f3.length (rd_impl_Twin xs i).f2.f3 := by
  obtain ⟨ad, c, e, _, hK, hc0⟩ := Kd.C_get h z_impl_Twin i h0 h1
  have hc : ∀ j u, c[j]? = some u → w.cell? (ad.add (i.toNat * 8 + j)) = some u := hc0
  obtain ⟨A4, c4, A5, c5, rfl, l4, g4, l5, g5⟩ := k_impl_Twin_open hK
  exact ⟨ad, A4, c4, A5, c5, e, hc 0 _ rfl, by rw [← add_field _ _ 1 (by omega)]; exact hc 1 _ rfl, by rw [← add_field _ _ 2 (by omega)]; exact hc 2 _ rfl, by rw [← add_field _ _ 3 (by omega)]; exact hc 3 _ rfl, by rw [← add_field _ _ 4 (by omega)]; exact hc 4 _ rfl, by rw [← add_field _ _ 5 (by omega)]; exact hc 5 _ rfl, by rw [← add_field _ _ 6 (by omega)]; exact hc 6 _ rfl, by rw [← add_field _ _ 7 (by omega)]; exact hc 7 _ rfl, l4, g4, l5, g5⟩
end Go.Proofs.Ytcllkemhlhbdgaa.G
namespace Go.Proofs.Ytcllkemhlhbdgaa.G
open Go.RowKit Go.Proofs.YtcllkemhlhbdgaaW.PrintWords Go.Proofs.YtcllkemhlhbdgaaW.PrintLast Go.Proofs.YtcllkemhlhbdgaaW.PrintMore
attribute [local go_sem] max2_int min2_int max_two min_two max_three min_three max_four min_four
set_option linter.unusedVariables false
set_option linter.unusedSimpArgs false
set_option maxHeartbeats 4000000 in
set_option maxRecDepth 100000 in
theorem idx_impl_Method (g : Nat) (lb : Array Value) (eg : ∀ args w, (callFunc g args).run Try.prog w = .ok (.enter g args) w) (p : S_impl_Method → Bool) (A : Option Addr) (c : Nat) (l : List S_impl_Method) (w : World) (hr : Kd.C k_impl_Method w A l.length l)
    (hp : ∀ W, Below w.heap.size w W → ∀ x cs, x ∈ l → (k_impl_Method).K W x cs → Calls Try.prog g (#[.agg cs.toArray] ++ lb) W fun e w' => e = .returned (.bool (p x)) ∧ Below w.heap.size w w') :
    Calls Try.prog 95 #[.slice A l.length c, .func (.func g) #[] lb] w fun e w' => (∃ i : Int, e = .returned (.int .i64 i) ∧ decide (0 ≤ i) = l.any p) ∧ Below w.heap.size w w' := by
  have hl : l.length ≤ 9223372036854775807 := hr.2.1
  have HP := Aside0.mk hp
  have HR := Aside0.mk hr
  clear hp hr
  go_enter Try.func95, Try.ntmps95
  go_wp2
  go_loopg [5, 8] l.length (fun gg _ s8 wr => ∃ kk : Nat, kk ≤ l.length ∧ l.length - kk ≤ gg ∧ s8 = .int .i64 kk ∧ Aside0 (Below w.heap.size w wr) ∧ Aside0 (∀ j x, j < kk → l[j]? = some x → p x = false))
  case atStart => exact ⟨0, Nat.zero_le _, by omega, rfl, ⟨Below.refl _ w⟩, ⟨fun j x hj => absurd hj (Nat.not_lt_zero _)⟩⟩
  case round =>
    obtain ⟨kk, hkk, hg, rfl, BW, A0⟩ := hrel
    by_cases hlt : kk < l.length
    · have hltz : (kk : Int) < (l.length : Int) := by omega
      have hmem : rd_impl_Method l kk ∈ l := by
        unfold rd_impl_Method
        rw [List.getD_eq_getElem?_getD, Int.toNat_natCast, List.getElem?_eq_getElem hlt]
        exact List.getElem_mem hlt
      have hget : l[kk]? = some (rd_impl_Method l kk) := by
        unfold rd_impl_Method
        rw [List.getD_eq_getElem?_getD, Int.toNat_natCast, List.getElem?_eq_getElem hlt]
        rfl
      obtain ⟨ad, A2, c2, rfl, hx0, hx1, hx2, hl2, hr2⟩ := at_impl_Method (Kd.C_below HR.out BW.out) (kk : Int) (by omega) hltz
      have hcall := HP.out wr BW.out (rd_impl_Method l kk) [.int .i64 (rd_impl_Method l kk).f0, .int .i64 (rd_impl_Method l kk).f1, .slice A2 (rd_impl_Method l kk).f2.length c2] hmem (k_impl_Method_mk wr _ hl2 hr2)
      simp only [Int.toNat_natCast] at hx0 hx1 hx2
      have GET := Aside0.mk hget
      clear hget hmem hl2 hr2
      generalize hy : rd_impl_Method l kk = y at *
      clear hy
      cases hq : p y with
      | true =>
        rw [hq] at hcall
        go_wp2_with (go_at_fn g; refine hcall.mono ?_; rintro e w' ⟨rfl, hb'⟩)
        go_ret
        refine ⟨⟨_, rfl, ?_⟩, hb'⟩
        have h1 : l.any p = true := List.any_eq_true.mpr ⟨_, List.mem_of_getElem? GET.out, hq⟩
        rw [h1]
        exact decide_eq_true (by omega)
      | false =>
        rw [hq] at hcall
        go_wp2_with (go_at_fn g; refine hcall.mono ?_; rintro e w' ⟨rfl, hb'⟩)
        go_roundg (l.length - (kk + 1))
        case measure => omega
        case rel =>
          refine ⟨kk + 1, by omega, by omega, by go_num, ⟨hb'⟩, ⟨fun j x hj hx => ?_⟩⟩
          by_cases e : j = kk
          · subst e
            have := GET.out.symm.trans hx
            injection this with this
            rw [← this]; exact hq
          · exact A0.out j x (by omega) hx
    · have hltz : ¬ (kk : Int) < (l.length : Int) := by omega
      have : kk = l.length := by omega
      subst this
      go_wp2
      go_ret
      refine ⟨⟨_, rfl, ?_⟩, BW.out⟩
      have h1 : l.any p = false := by
        rw [List.any_eq_false]
        intro x hx
        obtain ⟨j, hj, rfl⟩ := List.mem_iff_getElem.mp hx
        have := A0.out j _ hj (List.getElem?_eq_getElem hj)
        simp [this]
      rw [h1]
      rfl
set_option maxHeartbeats 4000000 in
theorem contains_impl_Method (g : Nat) (lb : Array Value) (eg : ∀ args w, (callFunc g args).run Try.prog w = .ok (.enter g args) w) (p : S_impl_Method → Bool) (A : Option Addr) (c : Nat) (l : List S_impl_Method) (w : World) (hr : Kd.C k_impl_Method w A l.length l)
    (hp : ∀ W, Below w.heap.size w W → ∀ x cs, x ∈ l → (k_impl_Method).K W x cs → Calls Try.prog g (#[.agg cs.toArray] ++ lb) W fun e w' => e = .returned (.bool (p x)) ∧ Below w.heap.size w w') :
    Calls Try.prog 63 #[.slice A l.length c, .func (.func g) #[] lb] w fun e w' => e = .returned (.bool (l.any p)) ∧ Below w.heap.size w w' := by
  have HP := Aside0.mk hp
  have HR := Aside0.mk hr
  clear hp hr
  go_enter Try.func63, Try.ntmps63
  go_wp2_with (go_at_call 95; refine (idx_impl_Method g lb eg p A c l _ HR.out HP.out).mono ?_; rintro e w' ⟨⟨i, rfl, hi⟩, hb'⟩; have HI := Aside0.mk hi; clear hi)
  go_ret
  exact ⟨by rw [← HI.out]; rfl, hb'⟩
set_option maxHeartbeats 4000000 in
set_option maxRecDepth 100000 in
theorem idx_impl_Op (g : Nat) (lb : Array Value) (eg : ∀ args w, (callFunc g args).run Try.prog w = .ok (.enter g args) w) (p : S_impl_Op → Bool) (A : Option Addr) (c : Nat) (l : List S_impl_Op) (w : World) (hr : Kd.C k_impl_Op w A l.length l)
    (hp : ∀ W, Below w.heap.size w W → ∀ x cs, x ∈ l → (k_impl_Op).K W x cs → Calls Try.prog g (#[.agg cs.toArray] ++ lb) W fun e w' => e = .returned (.bool (p x)) ∧ Below w.heap.size w w') :
    Calls Try.prog 96 #[.slice A l.length c, .func (.func g) #[] lb] w fun e w' => (∃ i : Int, e = .returned (.int .i64 i) ∧ decide (0 ≤ i) = l.any p) ∧ Below w.heap.size w w' := by
  have hl : l.length ≤ 9223372036854775807 := hr.2.1
  have HP := Aside0.mk hp
  have HR := Aside0.mk hr
  clear hp hr
  go_enter Try.func96, Try.ntmps96
  go_wp2
  go_loopg [5, 8] l.length (fun gg _ s8 wr => ∃ kk : Nat, kk ≤ l.length ∧ l.length - kk ≤ gg ∧ s8 = .int .i64 kk ∧ Aside0 (Below w.heap.size w wr) ∧ Aside0 (∀ j x, j < kk → l[j]? = some x → p x = false))
  case atStart => exact ⟨0, Nat.zero_le _, by omega, rfl, ⟨Below.refl _ w⟩, ⟨fun j x hj => absurd hj (Nat.not_lt_zero _)⟩⟩
  case round =>
    obtain ⟨kk, hkk, hg, rfl, BW, A0⟩ := hrel
    by_cases hlt : kk < l.length
    · have hltz : (kk : Int) < (l.length : Int) := by omega
      have hmem : rd_impl_Op l kk ∈ l := by
        unfold rd_impl_Op
        rw [List.getD_eq_getElem?_getD, Int.toNat_natCast, List.getElem?_eq_getElem hlt]
        exact List.getElem_mem hlt
      have hget : l[kk]? = some (rd_impl_Op l kk) := by
        unfold rd_impl_Op
        rw [List.getD_eq_getElem?_getD, Int.toNat_natCast, List.getElem?_eq_getElem hlt]
        rfl
      obtain ⟨ad, rfl, hx0, hx1⟩ := at_impl_Op (Kd.C_below HR.out BW.out) (kk : Int) (by omega) hltz
      have hcall := HP.out wr BW.out (rd_impl_Op l kk) [.int .i64 (rd_impl_Op l kk).f0, .int .i64 (rd_impl_Op l kk).f1] hmem (k_impl_Op_mk wr _)
      simp only [Int.toNat_natCast] at hx0 hx1
      have GET := Aside0.mk hget
      clear hget hmem
      generalize hy : rd_impl_Op l kk = y at *
      clear hy
      cases hq : p y with
      | true =>
        rw [hq] at hcall
        go_wp2_with (go_at_fn g; refine hcall.mono ?_; rintro e w' ⟨rfl, hb'⟩)
        go_ret
        refine ⟨⟨_, rfl, ?_⟩, hb'⟩
        have h1 : l.any p = true := List.any_eq_true.mpr ⟨_, List.mem_of_getElem? GET.out, hq⟩
        rw [h1]
        exact decide_eq_true (by omega)
      | false =>
        rw [hq] at hcall
        go_wp2_with (go_at_fn g; refine hcall.mono ?_; rintro e w' ⟨rfl, hb'⟩)
        go_roundg (l.length - (kk + 1))
        case measure => omega
        case rel =>
          refine ⟨kk + 1, by omega, by omega, by go_num, ⟨hb'⟩, ⟨fun j x hj hx => ?_⟩⟩
          by_cases e : j = kk
          · subst e
            have := GET.out.symm.trans hx
            injection this with this
            rw [← this]; exact hq
          · exact A0.out j x (by omega) hx
    · have hltz : ¬ (kk : Int) < (l.length : Int) := by omega
      have : kk = l.length := by omega
      subst this
      go_wp2
      go_ret
      refine ⟨⟨_, rfl, ?_⟩, BW.out⟩
      have h1 : l.any p = false := by
        rw [List.any_eq_false]
        intro x hx
        obtain ⟨j, hj, rfl⟩ := List.mem_iff_getElem.mp hx
        have := A0.out j _ hj (List.getElem?_eq_getElem hj)
        simp [this]
      rw [h1]
      rfl
set_option maxHeartbeats 4000000 in
theorem contains_impl_Op (g : Nat) (lb : Array Value) (eg : ∀ args w, (callFunc g args).run Try.prog w = .ok (.enter g args) w) (p : S_impl_Op → Bool) (A : Option Addr) (c : Nat) (l : List S_impl_Op) (w : World) (hr : Kd.C k_impl_Op w A l.length l)
    (hp : ∀ W, Below w.heap.size w W → ∀ x cs, x ∈ l → (k_impl_Op).K W x cs → Calls Try.prog g (#[.agg cs.toArray] ++ lb) W fun e w' => e = .returned (.bool (p x)) ∧ Below w.heap.size w w') :
    Calls Try.prog 65 #[.slice A l.length c, .func (.func g) #[] lb] w fun e w' => e = .returned (.bool (l.any p)) ∧ Below w.heap.size w w' := by
  have HP := Aside0.mk hp
  have HR := Aside0.mk hr
  clear hp hr
  go_enter Try.func65, Try.ntmps65
  go_wp2_with (go_at_call 96; refine (idx_impl_Op g lb eg p A c l _ HR.out HP.out).mono ?_; rintro e w' ⟨⟨i, rfl, hi⟩, hb'⟩; have HI := Aside0.mk hi; clear hi)
  go_ret
  exact ⟨by rw [← HI.out]; rfl, hb'⟩
end Go.Proofs.Ytcllkemhlhbdgaa.G
namespace Go.Proofs.Ytcllkemhlhbdgaa.G
open Go.RowKit Go.Proofs.YtcllkemhlhbdgaaW.PrintWords Go.Proofs.YtcllkemhlhbdgaaW.PrintLast Go.Proofs.YtcllkemhlhbdgaaW.PrintMore
attribute [local go_sem] max2_int min2_int max_two min_two max_three min_three max_four min_four
set_option linter.unusedVariables false
set_option linter.unusedSimpArgs false
def mannersArr (b : Nat) : Array Value := #[.string ⟨#[]⟩, .int .i64 0, .int .i64 0, .slice none 0 0, .nilFunc,
  .string ⟨#[110, 117, 109]⟩, .int .i64 0, .int .i64 1, .slice none 0 0, .func (.func 110) #[] #[.pointer (some ⟨b + 2, 0, none⟩)],
  .string ⟨#[116, 101, 109, 112]⟩, .int .i64 0, .int .i64 1, .slice none 0 0, .func (.func 111) #[] #[],
  .string ⟨#[115, 101, 116]⟩, .int .i64 1, .int .i64 0, .slice (some ⟨b, 0, none⟩) 1 1, .func (.func 111) #[] #[],
  .string ⟨#[100, 114, 111, 112]⟩, .int .i64 1, .int .i64 0, .slice (some ⟨b, 0, none⟩) 1 1, .nilFunc,
  .string ⟨#[97, 100, 100]⟩, .int .i64 2, .int .i64 1, .slice (some ⟨b + 3, 0, none⟩) 2 2, .nilFunc,
  .string ⟨#[115, 97, 109, 101]⟩, .int .i64 2, .int .i64 1, .slice (some ⟨b + 4, 0, none⟩) 2 2, .nilFunc,
  .string ⟨#[106, 117, 109, 112]⟩, .int .i64 0, .int .i64 0, .slice none 0 0, .func (.func 112) #[] #[],
  .string ⟨#[122, 101, 114, 111]⟩, .int .i64 1, .int .i64 0, .slice (some ⟨b, 0, none⟩) 1 1, .func (.func 112) #[] #[],
  .string ⟨#[99, 97, 108, 108]⟩, .int .i64 0, .int .i64 1, .slice none 0 0, .func (.func 113) #[] #[],
  .string ⟨#[114, 101, 116]⟩, .int .i64 1, .int .i64 0, .slice (some ⟨b, 0, none⟩) 1 1, .nilFunc,
  .string ⟨#[104, 101, 114, 101]⟩, .int .i64 0, .int .i64 1, .slice none 0 0, .nilFunc,
  .string ⟨#[115, 101, 110, 100, 101, 114]⟩, .int .i64 1, .int .i64 1, .slice (some ⟨b + 1, 0, none⟩) 1 1, .nilFunc,
  .string ⟨#[112, 101, 101, 107]⟩, .int .i64 1, .int .i64 1, .slice (some ⟨b + 1, 0, none⟩) 1 1, .func (.func 110) #[] #[.pointer (some ⟨b + 5, 0, none⟩)],
  .string ⟨#[112, 111, 107, 101]⟩, .int .i64 2, .int .i64 0, .slice (some ⟨b + 6, 0, none⟩) 2 2, .func (.func 110) #[] #[.pointer (some ⟨b + 7, 0, none⟩)],
  .string ⟨#[98, 97, 99, 107]⟩, .int .i64 2, .int .i64 1, .slice (some ⟨b + 8, 0, none⟩) 2 2, .nilFunc,
  .string ⟨#[115, 97, 121]⟩, .int .i64 1, .int .i64 0, .slice (some ⟨b, 0, none⟩) 1 1, .nilFunc,
  .string ⟨#[100, 101, 97, 100]⟩, .int .i64 1, .int .i64 1, .slice (some ⟨b + 1, 0, none⟩) 1 1, .nilFunc,
  .string ⟨#[119, 104, 101, 114, 101]⟩, .int .i64 1, .int .i64 1, .slice (some ⟨b + 1, 0, none⟩) 1 1, .nilFunc]
def MannersMem (b : Nat) (w : World) : Prop :=
  w.heap[b + 9]? = some (.cells (mannersArr b) 98 (0, 0)) ∧
  w.heap[b]? = some (.cells #[.int .i64 (-1)] 3 (0, 0)) ∧ w.heap[b + 1]? = some (.cells #[.int .i64 2] 3 (0, 0)) ∧
  w.heap[b + 2]? = some (.cells #[.int .i64 100] 3 (0, 0)) ∧ w.heap[b + 3]? = some (.cells #[.int .i64 1, .int .i64 1] 3 (0, 0)) ∧
  w.heap[b + 4]? = some (.cells #[.int .i64 (-1), .int .i64 (-1)] 3 (0, 0)) ∧ w.heap[b + 5]? = some (.cells #[.int .i64 4] 3 (0, 0)) ∧
  w.heap[b + 6]? = some (.cells #[.int .i64 2, .int .i64 (-1)] 3 (0, 0)) ∧ w.heap[b + 7]? = some (.cells #[.int .i64 4] 3 (0, 0)) ∧
  w.heap[b + 8]? = some (.cells #[.int .i64 2, .int .i64 (-1)] 3 (0, 0))
theorem MannersMem.kept {b : Nat} {w w' : World} (h : MannersMem b w) (k : Below w.heap.size w w') : MannersMem b w' := by
  obtain ⟨h9, h0, h1, h2, h3, h4, h5, h6, h7, h8⟩ := h
  exact ⟨(k.block _ (blk_lt h9)).trans h9, (k.block _ (blk_lt h0)).trans h0, (k.block _ (blk_lt h1)).trans h1, (k.block _ (blk_lt h2)).trans h2, (k.block _ (blk_lt h3)).trans h3,
    (k.block _ (blk_lt h4)).trans h4, (k.block _ (blk_lt h5)).trans h5, (k.block _ (blk_lt h6)).trans h6, (k.block _ (blk_lt h7)).trans h7, (k.block _ (blk_lt h8)).trans h8⟩
theorem manners_mem (w : World) (o0 o1 o2 o3 o4 o5 o6 o7 o8 o9 : Obj) :
    let W := ((((((((((w.alloc o0).alloc o1).alloc o2).alloc o3).alloc o4).alloc o5).alloc o6).alloc o7).alloc o8).alloc o9)
    W.heap[w.heap.size]? = some o0 ∧ W.heap[w.heap.size + 1]? = some o1 ∧ W.heap[w.heap.size + 2]? = some o2 ∧ W.heap[w.heap.size + 3]? = some o3 ∧ W.heap[w.heap.size + 4]? = some o4 ∧
    W.heap[w.heap.size + 5]? = some o5 ∧ W.heap[w.heap.size + 6]? = some o6 ∧ W.heap[w.heap.size + 7]? = some o7 ∧ W.heap[w.heap.size + 8]? = some o8 ∧ W.heap[w.heap.size + 9]? = some o9 ∧ Below w.heap.size w W := by
  refine ⟨?_, ?_, ?_, ?_, ?_, ?_, ?_, ?_, ?_, ?_, ?_⟩
  rotate_left 10
  · repeat (first | exact Below.refl _ _ | apply below_alloc)
  all_goals
    show ((((((((((w.heap.push o0).push o1).push o2).push o3).push o4).push o5).push o6).push o7).push o8).push o9)[_]? = _
    simp only [Array.getElem?_push, Array.size_push]
    repeat (first | rw [if_pos trivial] | rw [if_pos (by omega)] | rw [if_neg (by omega)])
set_option maxHeartbeats 2000000 in
set_option maxRecDepth 100000 in
theorem manners_calls (w : World) :
    Calls Try.prog 92 #[] w fun e w' => e = .returned (.slice (some ⟨w.heap.size + 9, 0, none⟩) 19 19) ∧ MannersMem w.heap.size w' ∧ Below w.heap.size w w' := by
  go_enter Try.func92, Try.ntmps92
  go_wp2
  go_ret
  obtain ⟨h0, h1, h2, h3, h4, h5, h6, h7, h8, h9, hb⟩ := manners_mem w (.cells #[.int .i64 (-1)] 3 (0, 0)) (.cells #[.int .i64 2] 3 (0, 0)) (.cells #[.int .i64 100] 3 (0, 0)) (.cells #[.int .i64 1, .int .i64 1] 3 (0, 0)) (.cells #[.int .i64 (-1), .int .i64 (-1)] 3 (0, 0)) (.cells #[.int .i64 4] 3 (0, 0)) (.cells #[.int .i64 2, .int .i64 (-1)] 3 (0, 0)) (.cells #[.int .i64 4] 3 (0, 0)) (.cells #[.int .i64 2, .int .i64 (-1)] 3 (0, 0)) (.cells (mannersArr w.heap.size) 98 (0, 0))
  exact ⟨rfl, ⟨h9, h0, h1, h2, h3, h4, h5, h6, h7, h8⟩, hb⟩
end Go.Proofs.Ytcllkemhlhbdgaa.G
namespace Go.Proofs.Ytcllkemhlhbdgaa.G
open Go.RowKit Go.Proofs.YtcllkemhlhbdgaaW.PrintWords Go.Proofs.YtcllkemhlhbdgaaW.PrintLast Go.Proofs.YtcllkemhlhbdgaaW.PrintMore
attribute [local go_sem] max2_int min2_int max_two min_two max_three min_three max_four min_four
set_option linter.unusedVariables false
set_option linter.unusedSimpArgs false
def mWord (n : Nat) : ByteArray := (([[], [110, 117, 109], [116, 101, 109, 112], [115, 101, 116], [100, 114, 111, 112], [97, 100, 100], [115, 97, 109, 101], [106, 117, 109, 112], [122, 101, 114, 111], [99, 97, 108, 108], [114, 101, 116], [104, 101, 114, 101], [115, 101, 110, 100, 101, 114], [112, 101, 101, 107], [112, 111, 107, 101], [98, 97, 99, 107], [115, 97, 121], [100, 101, 97, 100], [119, 104, 101, 114, 101]] : List (List UInt8)).map fun l => (⟨l.toArray⟩ : ByteArray)).getD n ⟨#[]⟩
def mTakes (n : Nat) : Int := [0, 0, 0, 1, 1, 2, 2, 0, 1, 0, 1, 0, 1, 1, 2, 2, 1, 1, 1].getD n 0
def mLeft (n : Nat) : Int := [0, 1, 1, 0, 0, 1, 1, 0, 0, 1, 0, 1, 1, 1, 0, 1, 0, 1, 1].getD n 0
def mKA (b n : Nat) : Option Addr :=
  [none, none, none, some ⟨b, 0, none⟩, some ⟨b, 0, none⟩, some ⟨b + 3, 0, none⟩, some ⟨b + 4, 0, none⟩, none, some ⟨b, 0, none⟩, none, some ⟨b, 0, none⟩, none, some ⟨b + 1, 0, none⟩, some ⟨b + 1, 0, none⟩, some ⟨b + 6, 0, none⟩, some ⟨b + 8, 0, none⟩, some ⟨b, 0, none⟩, some ⟨b + 1, 0, none⟩, some ⟨b + 1, 0, none⟩].getD n none
def mKN (n : Nat) : Nat := [0, 0, 0, 1, 1, 2, 2, 0, 1, 0, 1, 0, 1, 1, 2, 2, 1, 1, 1].getD n 0
def mG (n : Nat) : Option (Nat × Option Nat) :=
  [none, some (110, some 2), some (111, none), some (111, none), none, none, none, some (112, none), some (112, none), some (113, none), none, none, none, some (110, some 5), some (110, some 7), none, none, none, none].getD n none
def mLb (b : Nat) (o : Option Nat) : Array Value := match o with
  | none => #[]
  | some j => #[.pointer (some ⟨b + j, 0, none⟩)]
def mF (b n : Nat) : Value := match mG n with
  | none => .nilFunc
  | some (g, o) => .func (.func g) #[] (mLb b o)
theorem manner_arr (b n : Nat) (h1 : 1 ≤ n) (h2 : n ≤ 18) : (mannersArr b)[n * 5]? = some (.string (mWord n)) ∧ (mannersArr b)[n * 5 + 1]? = some (.int .i64 (mTakes n)) ∧ (mannersArr b)[n * 5 + 2]? = some (.int .i64 (mLeft n)) ∧
    (mannersArr b)[n * 5 + 3]? = some (.slice (mKA b n) (mKN n) (mKN n)) ∧ (mannersArr b)[n * 5 + 4]? = some (mF b n) := by
  have h : n = 1 ∨ n = 2 ∨ n = 3 ∨ n = 4 ∨ n = 5 ∨ n = 6 ∨ n = 7 ∨ n = 8 ∨ n = 9 ∨ n = 10 ∨ n = 11 ∨ n = 12 ∨ n = 13 ∨ n = 14 ∨ n = 15 ∨ n = 16 ∨ n = 17 ∨ n = 18 := by omega
  rcases h with rfl | rfl | rfl | rfl | rfl | rfl | rfl | rfl | rfl | rfl | rfl | rfl | rfl | rfl | rfl | rfl | rfl | rfl <;> exact ⟨rfl, rfl, rfl, rfl, rfl⟩
theorem manner_cells {b n : Nat} {w : World} (h : MannersMem b w) (h1 : 1 ≤ n) (h2 : n ≤ 18) : w.cell? ⟨b + 9, n * 5, none⟩ = some (.string (mWord n)) ∧ w.cell? ⟨b + 9, n * 5 + 1, none⟩ = some (.int .i64 (mTakes n)) ∧ w.cell? ⟨b + 9, n * 5 + 2, none⟩ = some (.int .i64 (mLeft n)) ∧
    w.cell? ⟨b + 9, n * 5 + 3, none⟩ = some (.slice (mKA b n) (mKN n) (mKN n)) ∧ w.cell? ⟨b + 9, n * 5 + 4, none⟩ = some (mF b n) := by
  obtain ⟨a0, a1, a2, a3, a4⟩ := manner_arr b n h1 h2
  exact ⟨(blk_cell h.1 _).trans a0, (blk_cell h.1 _).trans a1, (blk_cell h.1 _).trans a2, (blk_cell h.1 _).trans a3, (blk_cell h.1 _).trans a4⟩
set_option maxHeartbeats 1000000 in
set_option maxRecDepth 100000 in
theorem mannerOf_no (k : Int) (w : World) (h : ¬ (1 ≤ k ∧ k ≤ 18)) :
    Calls Try.prog 59 #[.int .i64 k] w fun e w' => e = .returned (.tuple #[.agg #[.string ⟨#[]⟩, .int .i64 0, .int .i64 0, .slice none 0 0, .nilFunc], .bool false]) ∧ Below w.heap.size w w' := by
  have h : decide (1 ≤ k) = false ∨ (decide (1 ≤ k) = true ∧ decide (k ≤ 18) = false) := by
    by_cases h1 : 1 ≤ k
    · exact .inr ⟨by simpa using h1, by simp; omega⟩
    · exact .inl (by simpa using h1)
  rcases h with h1 | ⟨h1, h2⟩
  · go_enter Try.func59, Try.ntmps59
    go_wp2
    refine bodyPost_ret (results_ct rfl _ _ w.heap.size 98 #[.string ⟨#[]⟩, .int .i64 0, .int .i64 0, .slice none 0 0, .nilFunc] (0, 0) _ rfl (blk_new w _) Try.underlying98 rfl (by kernel_rfl)) rfl ?_
    exact ⟨rfl, below_alloc (Below.refl _ _) _⟩
  · go_enter Try.func59, Try.ntmps59
    go_wp2
    refine bodyPost_ret (results_ct rfl _ _ w.heap.size 98 #[.string ⟨#[]⟩, .int .i64 0, .int .i64 0, .slice none 0 0, .nilFunc] (0, 0) _ rfl (blk_new w _) Try.underlying98 rfl (by kernel_rfl)) rfl ?_
    exact ⟨rfl, below_alloc (Below.refl _ _) _⟩
theorem blk_set5 {w : World} {g t : Nat} {a0 a1 a2 a3 a4 : Value} (h : w.heap[g]? = some (.cells #[a0, a1, a2, a3, a4] t (0, 0))) (b0 b1 b2 b3 b4 : Value) :
    (((((w.setCell ⟨g, 0, none⟩ b0).setCell ⟨g, 1, none⟩ b1).setCell ⟨g, 2, none⟩ b2).setCell ⟨g, 3, none⟩ b3).setCell ⟨g, 4, none⟩ b4).heap[g]? = some (.cells #[b0, b1, b2, b3, b4] t (0, 0)) := by
  have := blk_set (blk_set (blk_set (blk_set (blk_set h 0 b0) 1 b1) 2 b2) 3 b3) 4 b4
  simpa using this
theorem MannersMem.far {b : Nat} {w : World} (h : MannersMem b w) {p : Addr} (hp : p.block < b) (u : Value) : MannersMem b (w.setCell p u) := by
  obtain ⟨h9, h0, h1, h2, h3, h4, h5, h6, h7, h8⟩ := h
  exact ⟨blk_far h9 (by omega) u, blk_far h0 (by omega) u, blk_far h1 (by omega) u, blk_far h2 (by omega) u, blk_far h3 (by omega) u, blk_far h4 (by omega) u, blk_far h5 (by omega) u, blk_far h6 (by omega) u, blk_far h7 (by omega) u, blk_far h8 (by omega) u⟩
set_option maxHeartbeats 1000000 in
set_option maxRecDepth 100000 in
theorem mannerOf_nil (k : Int) (w : World) (h1 : 1 ≤ k) (h2 : k ≤ 18) (hF : mG k.toNat = none) :
    Calls Try.prog 59 #[.int .i64 k] w fun e w' => ∃ b, e = .returned (.tuple #[.agg #[.string (mWord k.toNat), .int .i64 (mTakes k.toNat), .int .i64 (mLeft k.toNat), .slice (mKA b k.toNat) (mKN k.toNat) (mKN k.toNat), .nilFunc], .bool true]) ∧ MannersMem b w' ∧ w.heap.size ≤ b ∧ Below w.heap.size w w' := by
  have d1 : decide (1 ≤ k) = true := by simpa using h1
  have d2 : decide (k ≤ 18) = true := by simpa using h2
  have H1 := Aside0.mk h1
  have H2 := Aside0.mk h2
  have HF := Aside0.mk hF
  clear hF
  have e1 : decide (0 ≤ k) = true := by simp; omega
  have e2 : decide (k < 19) = true := by simp; omega
  go_enter Try.func59, Try.ntmps59
  have HW := Aside0.mk (blk_new w (.cells #[.string ⟨#[]⟩, .int .i64 0, .int .i64 0, .slice none 0 0, .nilFunc] 98))
  go_wp2_with (first | (go_at_call 60; go_in) | (go_at_call 92; refine (manners_calls _).mono ?_; rintro e w1 ⟨rfl, hm, hb⟩; have HM := Aside0.mk (show MannersMem (w.heap.size + 1) w1 by simpa using hm); have HB := Aside0.mk (below_then (below_alloc (Below.refl _ _) _) (by simp) hb : Below w.heap.size w w1); have HW1 := Aside0.mk ((hb.block _ (blk_lt HW.out)).trans HW.out); clear hm hb; obtain ⟨hx0, hx1, hx2, hx3, hx4⟩ := manner_cells HM.out (n := k.toNat) (by have := H1.out; omega) (by have := H2.out; omega); rw [show mF (w.heap.size + 1) k.toNat = .nilFunc by unfold mF; rw [HF.out]] at hx4; have z0 := blk_cell HW1.out 0; have z1 := blk_cell HW1.out 1; have z2 := blk_cell HW1.out 2; have z3 := blk_cell HW1.out 3; have z4 := blk_cell HW1.out 4; have f0 := blk_frozen HW1.out 0; have f1 := blk_frozen HW1.out 1; have f2 := blk_frozen HW1.out 2; have f3 := blk_frozen HW1.out 3; have f4 := blk_frozen HW1.out 4))
  refine bodyPost_ret (results_ct rfl _ _ w.heap.size 98 #[.string (mWord k.toNat), .int .i64 (mTakes k.toNat), .int .i64 (mLeft k.toNat), .slice (mKA (w.heap.size + 1) k.toNat) (mKN k.toNat) (mKN k.toNat), .nilFunc] (0, 0) _ rfl (blk_set5 HW1.out _ _ _ _ _) Try.underlying98 rfl (by kernel_rfl)) rfl ?_
  exact ⟨w.heap.size + 1, rfl, ((((HM.out.far (Nat.lt_succ_self _) _).far (Nat.lt_succ_self _) _).far (Nat.lt_succ_self _) _).far (Nat.lt_succ_self _) _).far (Nat.lt_succ_self _) _, Nat.le_succ _,
    below_set (below_set (below_set (below_set (below_set HB.out (Nat.le_refl _)) (Nat.le_refl _)) (Nat.le_refl _)) (Nat.le_refl _)) (Nat.le_refl _)⟩
set_option maxHeartbeats 1000000 in
set_option maxRecDepth 100000 in
theorem mannerOf_fn (k : Int) (w : World) (g : Nat) (o : Option Nat) (h1 : 1 ≤ k) (h2 : k ≤ 18) (hF : mG k.toNat = some (g, o)) :
    Calls Try.prog 59 #[.int .i64 k] w fun e w' => ∃ b, e = .returned (.tuple #[.agg #[.string (mWord k.toNat), .int .i64 (mTakes k.toNat), .int .i64 (mLeft k.toNat), .slice (mKA b k.toNat) (mKN k.toNat) (mKN k.toNat), .func (.func g) #[] (mLb b o)], .bool true]) ∧ MannersMem b w' ∧ w.heap.size ≤ b ∧ Below w.heap.size w w' := by
  have d1 : decide (1 ≤ k) = true := by simpa using h1
  have d2 : decide (k ≤ 18) = true := by simpa using h2
  have H1 := Aside0.mk h1
  have H2 := Aside0.mk h2
  have HF := Aside0.mk hF
  clear hF
  have e1 : decide (0 ≤ k) = true := by simp; omega
  have e2 : decide (k < 19) = true := by simp; omega
  go_enter Try.func59, Try.ntmps59
  have HW := Aside0.mk (blk_new w (.cells #[.string ⟨#[]⟩, .int .i64 0, .int .i64 0, .slice none 0 0, .nilFunc] 98))
  go_wp2_with (first | (go_at_call 60; go_in) | (go_at_call 92; refine (manners_calls _).mono ?_; rintro e w1 ⟨rfl, hm, hb⟩; have HM := Aside0.mk (show MannersMem (w.heap.size + 1) w1 by simpa using hm); have HB := Aside0.mk (below_then (below_alloc (Below.refl _ _) _) (by simp) hb : Below w.heap.size w w1); have HW1 := Aside0.mk ((hb.block _ (blk_lt HW.out)).trans HW.out); clear hm hb; obtain ⟨hx0, hx1, hx2, hx3, hx4⟩ := manner_cells HM.out (n := k.toNat) (by have := H1.out; omega) (by have := H2.out; omega); rw [show mF (w.heap.size + 1) k.toNat = .func (.func g) #[] (mLb (w.heap.size + 1) o) by unfold mF; rw [HF.out]] at hx4; have z0 := blk_cell HW1.out 0; have z1 := blk_cell HW1.out 1; have z2 := blk_cell HW1.out 2; have z3 := blk_cell HW1.out 3; have z4 := blk_cell HW1.out 4; have f0 := blk_frozen HW1.out 0; have f1 := blk_frozen HW1.out 1; have f2 := blk_frozen HW1.out 2; have f3 := blk_frozen HW1.out 3; have f4 := blk_frozen HW1.out 4))
  refine bodyPost_ret (results_ct rfl _ _ w.heap.size 98 #[.string (mWord k.toNat), .int .i64 (mTakes k.toNat), .int .i64 (mLeft k.toNat), .slice (mKA (w.heap.size + 1) k.toNat) (mKN k.toNat) (mKN k.toNat), .func (.func g) #[] (mLb (w.heap.size + 1) o)] (0, 0) _ rfl (blk_set5 HW1.out _ _ _ _ _) Try.underlying98 rfl (by kernel_rfl)) rfl ?_
  exact ⟨w.heap.size + 1, rfl, ((((HM.out.far (Nat.lt_succ_self _) _).far (Nat.lt_succ_self _) _).far (Nat.lt_succ_self _) _).far (Nat.lt_succ_self _) _).far (Nat.lt_succ_self _) _, Nat.le_succ _,
    below_set (below_set (below_set (below_set (below_set HB.out (Nat.le_refl _)) (Nat.le_refl _)) (Nat.le_refl _)) (Nat.le_refl _)) (Nat.le_refl _)⟩
end Go.Proofs.Ytcllkemhlhbdgaa.G
namespace Go.Proofs.Ytcllkemhlhbdgaa.G
open Go.RowKit Go.Proofs.YtcllkemhlhbdgaaW.PrintWords Go.Proofs.YtcllkemhlhbdgaaW.PrintLast Go.Proofs.YtcllkemhlhbdgaaW.PrintMore
attribute [local go_sem] max2_int min2_int max_two min_two max_three min_three max_four min_four
set_option linter.unusedVariables false
set_option linter.unusedSimpArgs false
def mMost (n : Nat) (nl y no : Int) : Int := [0, 100, y, y, 0, 0, 0, no, no, nl, 0, 0, 0, 4, 4, 0, 0, 0, 0].getD n 0
set_option maxHeartbeats 1000000 in
theorem most_box (a : Nat) (M : Int) (u v : Array Value) (w : World) (hx : w.cell? ⟨a, 0, none⟩ = some (.int .i64 M)) :
    Calls Try.prog 110 #[.agg u, .agg v, .pointer (some ⟨a, 0, none⟩)] w fun e w' => e = .returned (.int .i64 M) ∧ Below w.heap.size w w' := by
  have hlt : a < w.heap.size := World.block_lt_of_cell? w _ hx
  go_enter Try.func110, Try.ntmps110
  go_wp2
  go_ret
  exact ⟨rfl, below_alloc (below_alloc (Below.refl _ _) _) _⟩
set_option maxHeartbeats 1000000 in
theorem most_temps (u : Array Value) (x y : Int) (s : Value) (w : World) :
    Calls Try.prog 111 #[.agg u, .agg #[.int .i64 x, .int .i64 y, s]] w fun e w' => e = .returned (.int .i64 y) ∧ Below w.heap.size w w' := by
  go_enter Try.func111, Try.ntmps111
  go_wp2
  go_ret
  exact ⟨rfl, below_alloc (below_alloc (Below.refl _ _) _) _⟩
set_option maxHeartbeats 1000000 in
theorem most_ops (u : Array Value) (x y : Int) (A : Option Addr) (n c : Nat) (w : World) :
    Calls Try.prog 112 #[.agg u, .agg #[.int .i64 x, .int .i64 y, .slice A n c]] w fun e w' => e = .returned (.int .i64 n) ∧ Below w.heap.size w w' := by
  go_enter Try.func112, Try.ntmps112
  go_wp2
  go_ret
  exact ⟨rfl, below_alloc (below_alloc (Below.refl _ _) _) _⟩
set_option maxHeartbeats 1000000 in
theorem most_methods (v : Array Value) (A : Option Addr) (n c : Nat) (w : World) :
    Calls Try.prog 113 #[.agg #[.slice A n c], .agg v] w fun e w' => e = .returned (.int .i64 n) ∧ Below w.heap.size w w' := by
  go_enter Try.func113, Try.ntmps113
  go_wp2
  go_ret
  exact ⟨rfl, below_alloc (below_alloc (Below.refl _ _) _) _⟩
theorem mG_cases {n g : Nat} {o : Option Nat} (h1 : 1 ≤ n) (h2 : n ≤ 18) (hG : mG n = some (g, o)) : n = 1 ∨ n = 2 ∨ n = 3 ∨ n = 7 ∨ n = 8 ∨ n = 9 ∨ n = 13 ∨ n = 14 := by
  have h : n = 1 ∨ n = 2 ∨ n = 3 ∨ n = 4 ∨ n = 5 ∨ n = 6 ∨ n = 7 ∨ n = 8 ∨ n = 9 ∨ n = 10 ∨ n = 11 ∨ n = 12 ∨ n = 13 ∨ n = 14 ∨ n = 15 ∨ n = 16 ∨ n = 17 ∨ n = 18 := by omega
  rcases h with rfl | rfl | rfl | rfl | rfl | rfl | rfl | rfl | rfl | rfl | rfl | rfl | rfl | rfl | rfl | rfl | rfl | rfl <;> first | omega | (exact absurd hG (by simp [mG]))
theorem most_any {b n g : Nat} {o : Option Nat} {w : World} (hm : MannersMem b w) (h1 : 1 ≤ n) (h2 : n ≤ 18) (hG : mG n = some (g, o)) (A0 : Option Addr) (n0 c0 : Nat) (x y : Int) (A2 : Option Addr) (n2 c2 : Nat) :
    Calls Try.prog g (#[.agg #[.slice A0 n0 c0], .agg #[.int .i64 x, .int .i64 y, .slice A2 n2 c2]] ++ mLb b o) w fun e w' => e = .returned (.int .i64 (mMost n n0 y n2)) ∧ Below w.heap.size w w' := by
  obtain ⟨-, -, -, m2, -, -, m5, -, m7, -⟩ := hm
  rcases mG_cases h1 h2 hG with rfl | rfl | rfl | rfl | rfl | rfl | rfl | rfl <;> (simp only [mG, List.getD_cons_succ, List.getD_cons_zero, Option.some.injEq, Prod.mk.injEq] at hG; obtain ⟨rfl, rfl⟩ := hG)
  · exact most_box (b + 2) 100 _ _ w ((blk_cell m2 0).trans rfl)
  · exact most_temps _ x y _ w
  · exact most_temps _ x y _ w
  · exact most_ops _ x y A2 n2 c2 w
  · exact most_ops _ x y A2 n2 c2 w
  · exact most_methods _ A0 n0 c0 w
  · exact most_box (b + 5) 4 _ _ w ((blk_cell m5 0).trans rfl)
  · exact most_box (b + 7) 4 _ _ w ((blk_cell m7 0).trans rfl)
end Go.Proofs.Ytcllkemhlhbdgaa.G
namespace Go.Proofs.Ytcllkemhlhbdgaa.G
open Go.RowKit Go.Proofs.YtcllkemhlhbdgaaW.PrintWords Go.Proofs.YtcllkemhlhbdgaaW.PrintLast Go.Proofs.YtcllkemhlhbdgaaW.PrintMore
attribute [local go_sem] max2_int min2_int max_two min_two max_three min_three max_four min_four
set_option linter.unusedVariables false
set_option linter.unusedSimpArgs false
def opOkB (nl : Nat) (y : Int) (no : Nat) (k a : Int) : Bool :=
  if 1 ≤ k ∧ k ≤ 18 then (if mG k.toNat = none then decide (a = 0) else decide (0 ≤ a ∧ a ≤ mMost k.toNat nl y no - 1)) else false
theorem most_range (n n0 n2 : Nat) (y : Int) (h0 : 0 ≤ y) (h1 : y ≤ 4) (a : n0 ≤ 9223372036854775807) (b : n2 ≤ 9223372036854775807) : 0 ≤ mMost n n0 y n2 ∧ mMost n n0 y n2 ≤ 9223372036854775807 := by
  unfold mMost
  by_cases hn : n < 19
  · have h : n = 0 ∨ n = 1 ∨ n = 2 ∨ n = 3 ∨ n = 4 ∨ n = 5 ∨ n = 6 ∨ n = 7 ∨ n = 8 ∨ n = 9 ∨ n = 10 ∨ n = 11 ∨ n = 12 ∨ n = 13 ∨ n = 14 ∨ n = 15 ∨ n = 16 ∨ n = 17 ∨ n = 18 := by omega
    rcases h with rfl | rfl | rfl | rfl | rfl | rfl | rfl | rfl | rfl | rfl | rfl | rfl | rfl | rfl | rfl | rfl | rfl | rfl | rfl <;> simp <;> omega
  · rw [List.getD_eq_getElem?_getD, List.getElem?_eq_none (by simp; omega)]
    simp
set_option maxHeartbeats 1000000 in
theorem in_any (n lo hi : Int) (w : World) : Calls Try.prog 60 #[.int .i64 n, .int .i64 lo, .int .i64 hi] w fun e w' => e = .returned (.bool (decide (lo ≤ n ∧ n ≤ hi))) ∧ w = w' := by
  by_cases h1 : lo ≤ n
  · have d1 : decide (lo ≤ n) = true := decide_eq_true h1
    by_cases h2 : n ≤ hi
    · have d2 : decide (n ≤ hi) = true := decide_eq_true h2
      have d : decide (lo ≤ n ∧ n ≤ hi) = true := decide_eq_true ⟨h1, h2⟩
      rw [d]
      clear h1 h2 d
      go_enter Try.func60, Try.ntmps60
      go_wp2
      go_ret
      exact ⟨rfl, rfl⟩
    · have d2 : decide (n ≤ hi) = false := decide_eq_false h2
      have d : decide (lo ≤ n ∧ n ≤ hi) = false := decide_eq_false (fun h => h2 h.2)
      rw [d]
      clear h1 h2 d
      go_enter Try.func60, Try.ntmps60
      go_wp2
      go_ret
      exact ⟨rfl, rfl⟩
  · have d1 : decide (lo ≤ n) = false := decide_eq_false h1
    have d : decide (lo ≤ n ∧ n ≤ hi) = false := decide_eq_false (fun h => h1 h.1)
    rw [d]
    clear h1 d
    go_enter Try.func60, Try.ntmps60
    go_wp2
    go_ret
    exact ⟨rfl, rfl⟩
theorem mG_enters {n g : Nat} {o : Option Nat} (h1 : 1 ≤ n) (h2 : n ≤ 18) (hG : mG n = some (g, o)) : ∀ args w, (callFunc g args).run Try.prog w = .ok (.enter g args) w := by
  rcases mG_cases h1 h2 hG with rfl | rfl | rfl | rfl | rfl | rfl | rfl | rfl <;> (simp only [mG, List.getD_cons_succ, List.getD_cons_zero, Option.some.injEq, Prod.mk.injEq] at hG; obtain ⟨rfl, rfl⟩ := hG)
  · exact enters_of Try.func110 (by kernel_rfl) rfl
  · exact enters_of Try.func111 (by kernel_rfl) rfl
  · exact enters_of Try.func111 (by kernel_rfl) rfl
  · exact enters_of Try.func112 (by kernel_rfl) rfl
  · exact enters_of Try.func112 (by kernel_rfl) rfl
  · exact enters_of Try.func113 (by kernel_rfl) rfl
  · exact enters_of Try.func110 (by kernel_rfl) rfl
  · exact enters_of Try.func110 (by kernel_rfl) rfl
theorem eql_nilFunc : ∀ w, (binOp .eql 96 .nilFunc .nilFunc).run Try.prog w = .ok (.bool true) w := fun _ => by kernel_rfl
theorem eql_func (g : Nat) (lb : Array Value) : ∀ w, (binOp .eql 96 (.func (.func g) #[] lb) .nilFunc).run Try.prog w = .ok (.bool false) w := fun _ => by kernel_rfl
theorem three_boxes {w w1 : World} {o1 o2 o3 : Obj} (h : Below (((w.alloc o1).alloc o2).alloc o3).heap.size (((w.alloc o1).alloc o2).alloc o3) w1) : w1.heap[w.heap.size]? = some o1 ∧ w1.heap[w.heap.size + 1]? = some o2 ∧ w1.heap[w.heap.size + 2]? = some o3 ∧ Below w.heap.size w w1 ∧ w.heap.size + 2 < w1.heap.size := by
  have h1 : (((w.alloc o1).alloc o2).alloc o3).heap[w.heap.size]? = some o1 := by
    show (((w.heap.push o1).push o2).push o3)[_]? = _
    simp only [Array.getElem?_push, Array.size_push]
    repeat (first | rw [if_pos trivial] | rw [if_pos (by omega)] | rw [if_neg (by omega)])
  have h2 : (((w.alloc o1).alloc o2).alloc o3).heap[w.heap.size + 1]? = some o2 := by
    show (((w.heap.push o1).push o2).push o3)[_]? = _
    simp only [Array.getElem?_push, Array.size_push]
    repeat (first | rw [if_pos trivial] | rw [if_pos (by omega)] | rw [if_neg (by omega)])
  have h3 : (((w.alloc o1).alloc o2).alloc o3).heap[w.heap.size + 2]? = some o3 := by
    show (((w.heap.push o1).push o2).push o3)[_]? = _
    simp only [Array.getElem?_push, Array.size_push]
    repeat (first | rw [if_pos trivial] | rw [if_pos (by omega)] | rw [if_neg (by omega)])
  refine ⟨(h.block _ (blk_lt h1)).trans h1, (h.block _ (blk_lt h2)).trans h2, (h.block _ (blk_lt h3)).trans h3, ?_, ?_⟩
  · exact below_step (below_alloc (below_alloc (below_alloc (Below.refl _ _) _) _) _) h
  · have := h.size
    simp at this
    omega
set_option maxHeartbeats 2000000 in
set_option maxRecDepth 100000 in
theorem opok_no (k a : Int) (A0 : Option Addr) (n0 c0 : Nat) (x y : Int) (A2 : Option Addr) (n2 c2 : Nat) (w : World) (h : ¬ (1 ≤ k ∧ k ≤ 18)) :
    Calls Try.prog 67 #[.agg #[.int .i64 k, .int .i64 a], .agg #[.slice A0 n0 c0], .agg #[.int .i64 x, .int .i64 y, .slice A2 n2 c2]] w fun e w' => e = .returned (.bool false) ∧ Below w.heap.size w w' := by
  have H := Aside0.mk h
  clear h
  go_enter Try.func67, Try.ntmps67
  go_wp2_with (go_at_call 59; refine (mannerOf_no _ _ H.out).mono ?_; rintro e w1 ⟨rfl, hb⟩; obtain ⟨hb1, hb2, hb3, hb4, hb5⟩ := three_boxes hb; have HB := Aside0.mk hb4; clear hb hb4)
  go_ret
  exact ⟨rfl, by repeat (first | exact HB.out | apply below_alloc)⟩
set_option maxHeartbeats 2000000 in
set_option maxRecDepth 100000 in
theorem opok_nil (k a : Int) (A0 : Option Addr) (n0 c0 : Nat) (x y : Int) (A2 : Option Addr) (n2 c2 : Nat) (w : World) (h1 : 1 ≤ k) (h2 : k ≤ 18) (hF : mG k.toNat = none) :
    Calls Try.prog 67 #[.agg #[.int .i64 k, .int .i64 a], .agg #[.slice A0 n0 c0], .agg #[.int .i64 x, .int .i64 y, .slice A2 n2 c2]] w fun e w' => e = .returned (.bool (decide (a = 0))) ∧ Below w.heap.size w w' := by
  have H1 := Aside0.mk h1
  have H2 := Aside0.mk h2
  have HF := Aside0.mk hF
  clear h1 h2 hF
  have hq := eql_nilFunc
  go_enter Try.func67, Try.ntmps67
  go_wp2_with (go_at_call 59; refine (mannerOf_nil _ _ H1.out H2.out HF.out).mono ?_; rintro e w1 ⟨b, rfl, hm, hge, hb⟩; obtain ⟨hb1, hb2, hb3, hb4, hb5⟩ := three_boxes hb; have HB := Aside0.mk hb4; have hlt1 : w.heap.size < w1.heap.size := Nat.lt_of_succ_lt (Nat.lt_of_succ_lt hb5); clear hb hb4 hm hge; have z1 : w1.cell? ⟨w.heap.size, 1, none⟩ = some (.int .i64 a) := blk_cell hb1 1)
  go_ret
  exact ⟨rfl, by repeat (first | exact HB.out | apply below_alloc)⟩
set_option maxHeartbeats 4000000 in
set_option maxRecDepth 100000 in
theorem opok_fn (k a : Int) (A0 : Option Addr) (n0 c0 : Nat) (x y : Int) (A2 : Option Addr) (n2 c2 : Nat) (w : World) (g : Nat) (o : Option Nat) (h1 : 1 ≤ k) (h2 : k ≤ 18) (hF : mG k.toNat = some (g, o)) (hy0 : 0 ≤ y) (hy1 : y ≤ 4) (hn0 : n0 ≤ 9223372036854775807) (hn2 : n2 ≤ 9223372036854775807) :
    Calls Try.prog 67 #[.agg #[.int .i64 k, .int .i64 a], .agg #[.slice A0 n0 c0], .agg #[.int .i64 x, .int .i64 y, .slice A2 n2 c2]] w fun e w' => e = .returned (.bool (decide (0 ≤ a ∧ a ≤ mMost k.toNat n0 y n2 - 1))) ∧ Below w.heap.size w w' := by
  have H1 := Aside0.mk h1
  have H2 := Aside0.mk h2
  have HF := Aside0.mk hF
  have eg := mG_enters (n := k.toNat) (by omega) (by omega) hF
  have hM := most_range k.toNat n0 n2 y hy0 hy1 hn0 hn2
  clear h1 h2 hF hn0 hn2 hy0 hy1
  have hq := eql_func g
  go_enter Try.func67, Try.ntmps67
  go_wp2_with (go_at_call 59; refine (mannerOf_fn _ _ _ _ H1.out H2.out HF.out).mono ?_; rintro e w1 ⟨b, rfl, hm, hge, hb⟩; obtain ⟨hb1, hb2, hb3, hb4, hb5⟩ := three_boxes hb; have HB := Aside0.mk hb4; have HM := Aside0.mk hm; have hlt1 : w.heap.size < w1.heap.size := Nat.lt_of_succ_lt (Nat.lt_of_succ_lt hb5); have hlt2 : w.heap.size + 1 < w1.heap.size := Nat.lt_of_succ_lt hb5; clear hb hb4 hm hge; have z1 : w1.cell? ⟨w.heap.size, 1, none⟩ = some (.int .i64 a) := blk_cell hb1 1; have z2 : w1.cell? ⟨w.heap.size + 1, 0, none⟩ = some (.slice A0 n0 c0) := blk_cell hb2 0; have z3 : w1.cell? ⟨w.heap.size + 1 + 1, 0, none⟩ = some (.int .i64 x) := blk_cell hb3 0; have z4 : w1.cell? ⟨w.heap.size + 1 + 1, 1, none⟩ = some (.int .i64 y) := blk_cell hb3 1; have z5 : w1.cell? ⟨w.heap.size + 1 + 1, 2, none⟩ = some (.slice A2 n2 c2) := blk_cell hb3 2)
  go_region_held3 (fun w' => w'.cell? ⟨w.heap.size, 1, none⟩ = some (.int .i64 a) ∧ w'.cell? ⟨w1.heap.size, 4, none⟩ = some (.func (.func g) #[] (mLb b o)) ∧ w'.cell? ⟨w.heap.size + 1, 0, none⟩ = some (.slice A0 n0 c0) ∧ w'.cell? ⟨w.heap.size + 1 + 1, 0, none⟩ = some (.int .i64 x) ∧ w'.cell? ⟨w.heap.size + 1 + 1, 1, none⟩ = some (.int .i64 y) ∧ w'.cell? ⟨w.heap.size + 1 + 1, 2, none⟩ = some (.slice A2 n2 c2))
    (first | go_keep | exact ⟨y1, y2, y3, y4, y5, y6⟩)
    (first | (go_at_fn g; refine (most_any (n := k.toNat) (o := o) (by exact HM.out.kept (by repeat (first | exact Below.refl _ _ | apply below_alloc | apply pw_below_drewN | apply below_drew1))) (by have := H1.out; omega) (by have := H2.out; omega) HF.out A0 n0 c0 x y A2 n2 c2).mono ?_; rintro e w2 ⟨rfl, hb2⟩; have y1 := pw_cell_below hb2 (a := ⟨w.heap.size, 1, none⟩) (v := .int .i64 a) (by go_keep); have y2 := pw_cell_below hb2 (a := ⟨w1.heap.size, 4, none⟩) (v := .func (.func g) #[] (mLb b o)) (by go_keep); have y3 := pw_cell_below hb2 (a := ⟨w.heap.size + 1, 0, none⟩) (v := .slice A0 n0 c0) (by go_keep); have y4 := pw_cell_below hb2 (a := ⟨w.heap.size + 1 + 1, 0, none⟩) (v := .int .i64 x) (by go_keep); have y5 := pw_cell_below hb2 (a := ⟨w.heap.size + 1 + 1, 1, none⟩) (v := .int .i64 y) (by go_keep); have y6 := pw_cell_below hb2 (a := ⟨w.heap.size + 1 + 1, 2, none⟩) (v := .slice A2 n2 c2) (by go_keep); have HB2 := Aside0.mk (below_step (by repeat (first | exact HB.out | apply below_alloc | apply pw_below_drewN | apply below_drew1) : Below w.heap.size w _) hb2); clear hb2) | (go_at_call 60; refine (in_any _ _ _ _).mono ?_; rintro e w3 ⟨rfl, rfl⟩))
  go_wp2
  go_ret
  refine ⟨?_, by repeat (first | exact HB2.out | apply below_alloc | apply pw_below_drewN | apply below_drew1)⟩
  show Ending.returned (.bool (decide (0 ≤ a) && decide (a ≤ IntKind.i64.wrap (mMost k.toNat n0 y n2 - 1)))) = _
  rw [IntWalk.i64_in _ (by omega), Bool.decide_and]
theorem opok_calls (k a : Int) (A0 : Option Addr) (n0 c0 : Nat) (x y : Int) (A2 : Option Addr) (n2 c2 : Nat) (w : World) (hy0 : 0 ≤ y) (hy1 : y ≤ 4) (hn0 : n0 ≤ 9223372036854775807) (hn2 : n2 ≤ 9223372036854775807) :
    Calls Try.prog 67 #[.agg #[.int .i64 k, .int .i64 a], .agg #[.slice A0 n0 c0], .agg #[.int .i64 x, .int .i64 y, .slice A2 n2 c2]] w fun e w' => e = .returned (.bool (opOkB n0 y n2 k a)) ∧ Below w.heap.size w w' := by
  unfold opOkB
  by_cases hk : 1 ≤ k ∧ k ≤ 18
  · rw [if_pos hk]
    cases hg : mG k.toNat with
    | none => rw [if_pos rfl]; exact opok_nil k a A0 n0 c0 x y A2 n2 c2 w hk.1 hk.2 hg
    | some go => rw [if_neg (by simp)]; exact opok_fn k a A0 n0 c0 x y A2 n2 c2 w go.1 go.2 hk.1 hk.2 hg hy0 hy1 hn0 hn2
  · rw [if_neg hk]
    exact opok_no k a A0 n0 c0 x y A2 n2 c2 w hk
end Go.Proofs.Ytcllkemhlhbdgaa.G
namespace Go.Proofs.Ytcllkemhlhbdgaa.G
open Go.RowKit Go.Proofs.YtcllkemhlhbdgaaW.PrintWords Go.Proofs.YtcllkemhlhbdgaaW.PrintLast Go.Proofs.YtcllkemhlhbdgaaW.PrintMore
attribute [local go_sem] max2_int min2_int max_two min_two max_three min_three max_four min_four
set_option linter.unusedVariables false
set_option linter.unusedSimpArgs false
def methodBadB (nl : Nat) (m : S_impl_Method) : Bool :=
  if 0 ≤ m.f0 ∧ m.f0 ≤ 2 ∧ m.f0 ≤ m.f1 ∧ m.f1 ≤ 4 ∧ m.f2.length ≤ 14 then m.f2.any (fun op => !opOkB nl m.f1 m.f2.length op.f0 op.f1) else true
def progOkB (l : List S_impl_Method) : Bool :=
  if 1 ≤ l.length ∧ l.length ≤ 4 ∧ (rd_impl_Method l 0).f0 = 0 then !(l.any (methodBadB l.length)) else false
set_option maxHeartbeats 2000000 in
set_option maxRecDepth 100000 in
theorem progok11 (k a : Int) (bp bm : Nat) (A0 : Option Addr) (n0 c0 : Nat) (x y : Int) (A2 : Option Addr) (n2 c2 : Nat) (w : World) (hy0 : 0 ≤ y) (hy1 : y ≤ 4) (hn0 : n0 ≤ 9223372036854775807) (hn2 : n2 ≤ 9223372036854775807)
    (hp : w.cell? ⟨bp, 0, none⟩ = some (.slice A0 n0 c0)) (h0 : w.cell? ⟨bm, 0, none⟩ = some (.int .i64 x)) (h1 : w.cell? ⟨bm, 1, none⟩ = some (.int .i64 y)) (h2 : w.cell? ⟨bm, 2, none⟩ = some (.slice A2 n2 c2)) :
    Calls Try.prog 66 #[.agg #[.int .i64 k, .int .i64 a], .pointer (some ⟨bp, 0, none⟩), .pointer (some ⟨bm, 0, none⟩)] w fun e w' => e = .returned (.bool (!opOkB n0 y n2 k a)) ∧ Below w.heap.size w w' := by
  have l1 : bp < w.heap.size := World.block_lt_of_cell? w _ hp
  have l2 : bm < w.heap.size := World.block_lt_of_cell? w _ h0
  have Y0 := Aside0.mk hy0
  have Y1 := Aside0.mk hy1
  have N0 := Aside0.mk hn0
  have N2 := Aside0.mk hn2
  clear hy0 hy1 hn0 hn2
  go_enter Try.func66, Try.ntmps66
  go_wp2_with (go_at_call 67; refine (opok_calls k a A0 n0 c0 x y A2 n2 c2 _ Y0.out Y1.out N0.out N2.out).mono ?_; rintro e w1 ⟨rfl, hb⟩; have HB := Aside0.mk (below_step (below_alloc (Below.refl _ _) _) hb); clear hb)
  go_ret
  exact ⟨rfl, HB.out⟩
theorem progok1_enters : ∀ args w, (callFunc 64 args).run Try.prog w = .ok (.enter 64 args) w := enters_of Try.func64 (by kernel_rfl) rfl
theorem progok11_enters : ∀ args w, (callFunc 66 args).run Try.prog w = .ok (.enter 66 args) w := enters_of Try.func66 (by kernel_rfl) rfl
set_option maxHeartbeats 2000000 in
set_option maxRecDepth 100000 in
theorem progok1_out (m : S_impl_Method) (bp : Nat) (A2 : Option Addr) (c2 : Nat) (w : World) (h : ¬ (0 ≤ m.f0 ∧ m.f0 ≤ 2 ∧ m.f0 ≤ m.f1 ∧ m.f1 ≤ 4 ∧ m.f2.length ≤ 14)) :
    Calls Try.prog 64 #[.agg #[.int .i64 m.f0, .int .i64 m.f1, .slice A2 m.f2.length c2], .pointer (some ⟨bp, 0, none⟩)] w fun e w' => e = .returned (.bool true) ∧ Below w.heap.size w w' := by
  obtain ⟨x, y, l⟩ := m
  simp only at h ⊢
  by_cases c1 : 0 ≤ x
  · have d1 := decide_eq_true c1
    by_cases c2' : x ≤ 2
    · have d2 := decide_eq_true c2'
      by_cases c3 : x ≤ y
      · have d3 := decide_eq_true c3
        by_cases c4 : y ≤ 4
        · have d4 := decide_eq_true c4
          have d5 : decide (14 < (l.length : Int)) = true := decide_eq_true (by omega)
          have d6 : decide (14 < l.length) = true := decide_eq_true (by omega)
          clear c1 c2' c3 c4 h
          go_enter Try.func64, Try.ntmps64
          go_wp2_with (go_at_call 60; refine (in_any _ _ _ _).mono ?_; rintro e w3 ⟨rfl, rfl⟩)
          go_ret
          exact ⟨rfl, below_alloc (Below.refl _ _) _⟩
        · have d4 := decide_eq_false c4
          clear c1 c2' c3 c4 h
          go_enter Try.func64, Try.ntmps64
          go_wp2_with (go_at_call 60; refine (in_any _ _ _ _).mono ?_; rintro e w3 ⟨rfl, rfl⟩)
          go_ret
          exact ⟨rfl, below_alloc (Below.refl _ _) _⟩
      · have d3 := decide_eq_false c3
        clear c1 c2' c3 h
        go_enter Try.func64, Try.ntmps64
        go_wp2_with (go_at_call 60; refine (in_any _ _ _ _).mono ?_; rintro e w3 ⟨rfl, rfl⟩)
        go_ret
        exact ⟨rfl, below_alloc (Below.refl _ _) _⟩
    · have d2 := decide_eq_false c2'
      clear c1 c2' h
      go_enter Try.func64, Try.ntmps64
      go_wp2_with (go_at_call 60; refine (in_any _ _ _ _).mono ?_; rintro e w3 ⟨rfl, rfl⟩)
      go_ret
      exact ⟨rfl, below_alloc (Below.refl _ _) _⟩
  · have d1 := decide_eq_false c1
    clear c1 h
    go_enter Try.func64, Try.ntmps64
    go_wp2_with (go_at_call 60; refine (in_any _ _ _ _).mono ?_; rintro e w3 ⟨rfl, rfl⟩)
    go_ret
    exact ⟨rfl, below_alloc (Below.refl _ _) _⟩
set_option maxHeartbeats 2000000 in
set_option maxRecDepth 100000 in
theorem progok1_in (x y : Int) (l : List S_impl_Op) (bp : Nat) (A0 : Option Addr) (n0 c0 : Nat) (A2 : Option Addr) (c2 : Nat) (w : World) (h1 : 0 ≤ x) (h2 : x ≤ 2) (h3 : x ≤ y) (h4 : y ≤ 4) (h5 : l.length ≤ 14) (hn0 : n0 ≤ 9223372036854775807)
    (hp : w.cell? ⟨bp, 0, none⟩ = some (.slice A0 n0 c0)) (hr : Kd.C k_impl_Op w A2 l.length l) :
    Calls Try.prog 64 #[.agg #[.int .i64 x, .int .i64 y, .slice A2 l.length c2], .pointer (some ⟨bp, 0, none⟩)] w fun e w' => e = .returned (.bool (l.any (fun op => !opOkB n0 y l.length op.f0 op.f1))) ∧ Below w.heap.size w w' := by
  have d1 := decide_eq_true h1
  have d2 := decide_eq_true h2
  have d3 := decide_eq_true h3
  have d4 := decide_eq_true h4
  have d5 : decide (14 < (l.length : Int)) = false := decide_eq_false (by omega)
  have d6 : decide (14 < l.length) = false := decide_eq_false (by omega)
  have L1 := Aside0.mk (World.block_lt_of_cell? w _ hp : bp < w.heap.size)
  have HP := Aside0.mk hp
  have HR := Aside0.mk hr
  have Y0 := Aside0.mk (show 0 ≤ y by omega)
  have Y1 := Aside0.mk h4
  have N0 := Aside0.mk hn0
  have N2 := Aside0.mk (show l.length ≤ 9223372036854775807 by omega)
  have BK := Aside0.mk (blk_new w (.cells #[.int .i64 x, .int .i64 y, .slice A2 l.length c2] 59))
  clear h1 h2 h3 h4 h5 hp hr hn0
  go_enter Try.func64, Try.ntmps64
  go_wp2_with (first | (go_at_call 60; refine (in_any _ _ _ _).mono ?_; rintro e w3 ⟨rfl, rfl⟩) | (go_at_call 65; refine (contains_impl_Op 66 _ progok11_enters (fun op => !opOkB n0 y l.length op.f0 op.f1) _ _ _ _ ?hc ?hq).mono ?_; (case hc => exact Kd.C_alloc HR.out _); (case hq => intro W hW o cs ho hK; obtain rfl := k_impl_Op_open hK; exact (progok11 o.f0 o.f1 bp w.heap.size A0 n0 c0 x y A2 l.length c2 W Y0.out Y1.out N0.out N2.out (pw_cell_below (below_step (below_alloc (Below.refl _ _) _) hW) HP.out) (blk_cell ((hW.block _ (blk_lt BK.out)).trans BK.out) 0) (blk_cell ((hW.block _ (blk_lt BK.out)).trans BK.out) 1) (blk_cell ((hW.block _ (blk_lt BK.out)).trans BK.out) 2)).mono fun e w' ⟨he, hb⟩ => ⟨he, below_then hW hW.size hb⟩); rintro e w1 ⟨rfl, hb⟩; have HB := Aside0.mk (below_step (below_alloc (Below.refl _ _) _) hb : Below w.heap.size w w1); clear hb))
  go_ret
  exact ⟨rfl, HB.out⟩
theorem progok1_calls (m : S_impl_Method) (bp : Nat) (A0 : Option Addr) (n0 c0 : Nat) (cs : List Value) (w : World) (hn0 : n0 ≤ 9223372036854775807) (hp : w.cell? ⟨bp, 0, none⟩ = some (.slice A0 n0 c0)) (hK : (k_impl_Method).K w m cs) :
    Calls Try.prog 64 (#[.agg cs.toArray] ++ #[.pointer (some ⟨bp, 0, none⟩)]) w fun e w' => e = .returned (.bool (methodBadB n0 m)) ∧ Below w.heap.size w w' := by
  obtain ⟨A2, c2, rfl, l2, g2⟩ := k_impl_Method_open hK
  unfold methodBadB
  by_cases h : 0 ≤ m.f0 ∧ m.f0 ≤ 2 ∧ m.f0 ≤ m.f1 ∧ m.f1 ≤ 4 ∧ m.f2.length ≤ 14
  · rw [if_pos h]
    exact progok1_in m.f0 m.f1 m.f2 bp A0 n0 c0 A2 c2 w h.1 h.2.1 h.2.2.1 h.2.2.2.1 h.2.2.2.2 hn0 hp g2
  · rw [if_neg h]
    exact progok1_out m bp A2 c2 w h
end Go.Proofs.Ytcllkemhlhbdgaa.G
namespace Go.Proofs.Ytcllkemhlhbdgaa.G
open Go.RowKit Go.Proofs.YtcllkemhlhbdgaaW.PrintWords Go.Proofs.YtcllkemhlhbdgaaW.PrintLast Go.Proofs.YtcllkemhlhbdgaaW.PrintMore
attribute [local go_sem] max2_int min2_int max_two min_two max_three min_three max_four min_four
set_option linter.unusedVariables false
set_option linter.unusedSimpArgs false
def impl_ProgOk.f (l0_0 : List (S_impl_Method)) : Option Bool := some (progOkB l0_0)
set_option maxHeartbeats 2000000 in
set_option maxRecDepth 100000 in
theorem ProgOk_few (A0 : Option Addr) (c0 : Nat) (l : List S_impl_Method) (w : World) (h : ¬ (1 ≤ l.length ∧ l.length ≤ 4)) :
    Calls Try.prog 27 #[.agg #[.slice A0 l.length c0]] w fun e w' => e = .returned (.bool false) ∧ Below w.heap.size w w' := by
  have h : decide (1 ≤ (l.length : Int)) = false ∨ (decide (1 ≤ (l.length : Int)) = true ∧ decide ((l.length : Int) ≤ 4) = false) := by
    by_cases h1 : 1 ≤ l.length
    · exact .inr ⟨by simp; omega, by simp; omega⟩
    · exact .inl (by simp; omega)
  rcases h with h1 | ⟨h1, h2⟩
  · go_enter Try.func27, Try.ntmps27
    go_wp2_with (go_at_call 60; refine (in_any _ _ _ _).mono ?_; rintro e w3 ⟨rfl, rfl⟩)
    go_ret
    exact ⟨rfl, below_alloc (Below.refl _ _) _⟩
  · go_enter Try.func27, Try.ntmps27
    go_wp2_with (go_at_call 60; refine (in_any _ _ _ _).mono ?_; rintro e w3 ⟨rfl, rfl⟩)
    go_ret
    exact ⟨rfl, below_alloc (Below.refl _ _) _⟩
set_option maxHeartbeats 2000000 in
set_option maxRecDepth 100000 in
theorem ProgOk_args (A0 : Option Addr) (c0 : Nat) (l : List S_impl_Method) (w : World) (h1 : 1 ≤ l.length) (h2 : l.length ≤ 4) (hr : Kd.C k_impl_Method w A0 l.length l) (h3 : ¬ (rd_impl_Method l 0).f0 = 0) :
    Calls Try.prog 27 #[.agg #[.slice A0 l.length c0]] w fun e w' => e = .returned (.bool false) ∧ Below w.heap.size w w' := by
  obtain ⟨ad, A2, c2, rfl, hx0, -, -, -, -⟩ := at_impl_Method hr 0 (by omega) (by omega)
  have d1 : decide (1 ≤ (l.length : Int)) = true := decide_eq_true (by omega)
  have d2 : decide ((l.length : Int) ≤ 4) = true := decide_eq_true (by omega)
  have d0 : decide (0 < l.length) = true := decide_eq_true (by omega)
  have i1 : (0 : Int) < (l.length : Int) := by omega
  have i2 : 0 < l.length := by omega
  have d3 : ((rd_impl_Method l 0).f0 != 0) = true := bne_iff_ne.mpr h3
  have hx := pw_cell_below (below_alloc (Below.refl _ _) (.cells #[.slice (some ad) l.length c0] 46)) hx0
  simp only [Int.toNat_zero, Nat.zero_mul] at hx
  have e0 : ad.add 0 = ad := by unfold Addr.add; simp
  rw [e0] at hx
  clear h1 h2 h3 hx0 hr e0 d0
  go_enter Try.func27, Try.ntmps27
  go_wp2_with (go_at_call 60; refine (in_any _ _ _ _).mono ?_; rintro e w3 ⟨rfl, rfl⟩)
  go_ret
  exact ⟨rfl, below_alloc (Below.refl _ _) _⟩
set_option maxHeartbeats 2000000 in
set_option maxRecDepth 100000 in
theorem ProgOk_all (A0 : Option Addr) (c0 : Nat) (l : List S_impl_Method) (w : World) (h1 : 1 ≤ l.length) (h2 : l.length ≤ 4) (hr : Kd.C k_impl_Method w A0 l.length l) (h3 : (rd_impl_Method l 0).f0 = 0) :
    Calls Try.prog 27 #[.agg #[.slice A0 l.length c0]] w fun e w' => e = .returned (.bool (!(l.any (methodBadB l.length)))) ∧ Below w.heap.size w w' := by
  have HR := Aside0.mk hr
  obtain ⟨ad, A2, c2, rfl, hx0, -, -, -, -⟩ := at_impl_Method hr 0 (by omega) (by omega)
  have d1 : decide (1 ≤ (l.length : Int)) = true := decide_eq_true (by omega)
  have d2 : decide ((l.length : Int) ≤ 4) = true := decide_eq_true (by omega)
  have i1 : (0 : Int) < (l.length : Int) := by omega
  have i2 : 0 < l.length := by omega
  have d3 : ((rd_impl_Method l 0).f0 != 0) = false := bne_eq_false_iff_eq.mpr h3
  have hx := pw_cell_below (below_alloc (Below.refl _ _) (.cells #[.slice (some ad) l.length c0] 46)) hx0
  simp only [Int.toNat_zero, Nat.zero_mul] at hx
  have e0 : ad.add 0 = ad := by unfold Addr.add; simp
  rw [e0] at hx
  have BK := Aside0.mk (blk_new w (.cells #[.slice (some ad) l.length c0] 46))
  have N0 := Aside0.mk (show l.length ≤ 9223372036854775807 by omega)
  clear h1 h2 h3 hx0 hr e0
  go_enter Try.func27, Try.ntmps27
  go_wp2_with (first | (go_at_call 60; refine (in_any _ _ _ _).mono ?_; rintro e w3 ⟨rfl, rfl⟩) | (go_at_call 63; refine (contains_impl_Method 64 _ progok1_enters (methodBadB l.length) _ _ _ _ ?hc ?hq).mono ?_; (case hc => exact Kd.C_alloc HR.out _); (case hq => intro W hW m cs hm hK; exact (progok1_calls m w.heap.size (some ad) l.length c0 cs W N0.out (blk_cell ((hW.block _ (blk_lt BK.out)).trans BK.out) 0) hK).mono fun e w' ⟨he, hb⟩ => ⟨he, below_then hW hW.size hb⟩); rintro e w1 ⟨rfl, hb⟩; have HB := Aside0.mk (below_step (below_alloc (Below.refl _ _) _) hb : Below w.heap.size w w1); clear hb))
  go_ret
  exact ⟨rfl, HB.out⟩
theorem impl_ProgOk.calls (A0_0 : Option Addr) (c0_0 : Nat) (l0_0 : List (S_impl_Method)) (r : Bool) (w : World) (hr0_0 : Kd.C k_impl_Method w A0_0 l0_0.length l0_0) (hc0_0 : l0_0.length ≤ c0_0) (h : impl_ProgOk.f l0_0 = some r) :
    Calls Try.prog 27 #[.agg #[.slice A0_0 l0_0.length c0_0]] w fun e w' => e = .returned (.bool r) ∧ Below w.heap.size w w' := by
  unfold impl_ProgOk.f progOkB at h
  obtain rfl := Option.some.inj h
  by_cases h1 : 1 ≤ l0_0.length ∧ l0_0.length ≤ 4
  · by_cases h3 : (rd_impl_Method l0_0 0).f0 = 0
    · rw [if_pos ⟨h1.1, h1.2, h3⟩]
      exact ProgOk_all A0_0 c0_0 l0_0 w h1.1 h1.2 hr0_0 h3
    · rw [if_neg (fun h => h3 h.2.2)]
      exact ProgOk_args A0_0 c0_0 l0_0 w h1.1 h1.2 hr0_0 h3
  · rw [if_neg (fun h => h1 ⟨h.1, h.2.1⟩)]
    exact ProgOk_few A0_0 c0_0 l0_0 w h1
end Go.Proofs.Ytcllkemhlhbdgaa.G
namespace Go.Proofs.Ytcllkemhlhbdgaa.G
open Go.RowKit Go.Proofs.YtcllkemhlhbdgaaW.PrintWords Go.Proofs.YtcllkemhlhbdgaaW.PrintLast Go.Proofs.YtcllkemhlhbdgaaW.PrintMore
attribute [local go_sem] max2_int min2_int max_two min_two max_three min_three max_four min_four
set_option linter.unusedVariables false
set_option linter.unusedSimpArgs false
def laws_eqOp.f (a0_0 : Int) (a0_1 : Int) (a1_0 : Int) (a1_1 : Int) : Option (Bool) := if a0_0 = a1_0 then (if a0_1 = a1_1 then (some true) else (some false)) else (some false)
set_option maxHeartbeats 8000000 in
set_option maxRecDepth 100000 in
theorem laws_eqOp.calls (a0_0 : Int) (a0_1 : Int) (a1_0 : Int) (a1_1 : Int) (r : Bool) (w : World) (h : laws_eqOp.f a0_0 a0_1 a1_0 a1_1 = some r) :
    Calls Try.prog 119 #[.agg #[.int .i64 a0_0, .int .i64 a0_1], .agg #[.int .i64 a1_0, .int .i64 a1_1]] w fun e w' => e = .returned (.bool r) ∧ Below w.heap.size w w' := by
  have hu48 := Try.underlying48
  have HB := Aside0.mk (Below.refl w.heap.size w)
  have H : (if a0_0 = a1_0 then (if a0_1 = a1_1 then (some true) else (some false)) else (some false)) = some r := h
  clear h
  by_cases c3 : a0_0 = a1_0
  · rw [if_pos c3] at H
    have c3b0 : (a0_0 == a1_0) = true := beq_iff_eq.mpr c3
    have c3b1 : (a0_0 != a1_0) = false := bne_eq_false_iff_eq.mpr c3
    clear c3
    by_cases c4 : a0_1 = a1_1
    · rw [if_pos c4] at H
      have c4b0 : (a0_1 == a1_1) = true := beq_iff_eq.mpr c4
      have c4b1 : (a0_1 != a1_1) = false := bne_eq_false_iff_eq.mpr c4
      clear c4
      obtain rfl := Option.some.inj H
      go_enter Try.func119, Try.ntmps119
      go_wp2_with (first | ((with_reducible refine gate_dst (N := 2) rfl ?_); refine box_event ?hg (N := 2) ?hd (cs := #[.int .i64 a0_0, .int .i64 a0_1]) (t := 48) ?hr ?_; (case hd => rfl); (case hg => rfl); (case hr => first | (go_simp; done) | (go_simp; rfl)); intro gb101 hg w5 hbox hb; have n0_ := Aside0.mk (below_step (by repeat (first | (with_reducible first | exact HB.out | apply below_alloc | apply pw_below_drewN | apply below_drew1) | exact HB.out)) hb); have n1_ := Aside0.mk (hbox); have n2_ := Aside0.mk ((by rw [hg]; exact (below_size (by repeat (first | (with_reducible first | exact HB.out | apply below_alloc | apply pw_below_drewN | apply below_drew1) | exact HB.out))) : w.heap.size ≤ gb101)); have n3_ := Aside0.mk ((by rw [hg]; exact (below_size (by repeat (first | (with_reducible first | exact HB.out | apply below_alloc | apply pw_below_drewN | apply below_drew1) | exact HB.out))) : w.heap.size ≤ gb101)); clear HB; have HB := n0_; have BK101 := n1_; have GW101 := n2_; have GE101 := n3_; clear n0_ n1_ n2_ n3_; clear hb hbox hg) | ((with_reducible refine gate_dst (N := 3) rfl ?_); refine box_event ?hg (N := 3) ?hd (cs := #[.int .i64 a1_0, .int .i64 a1_1]) (t := 48) ?hr ?_; (case hd => rfl); (case hg => rfl); (case hr => first | (go_simp; done) | (go_simp; rfl)); intro gb102 hg w6 hbox hb; have n0_ := Aside0.mk (blk_below (g := gb101) (o := .cells #[.int .i64 a0_0, .int .i64 a0_1] 48 (0, 0)) (by (with_reducible repeat (first | refine blk_drewN ?_ _ | refine blk_drew ?_ | refine blk_alloc ?_ _)); exact BK101.out) hb); have n1_ := Aside0.mk (below_step (by repeat (first | (with_reducible first | exact HB.out | apply below_alloc | apply pw_below_drewN | apply below_drew1 | refine below_set ?_ GE101.out) | exact HB.out)) hb); have n2_ := Aside0.mk (hbox); have n3_ := Aside0.mk ((by rw [hg]; exact (below_size (by repeat (first | (with_reducible first | exact HB.out | apply below_alloc | apply pw_below_drewN | apply below_drew1 | refine below_set ?_ GE101.out) | exact HB.out))) : w.heap.size ≤ gb102)); have n4_ := Aside0.mk ((by rw [hg]; exact (below_size (by repeat (first | (with_reducible first | exact HB.out | apply below_alloc | apply pw_below_drewN | apply below_drew1 | refine below_set ?_ GE101.out) | exact HB.out))) : w.heap.size ≤ gb102)); have n5_ := Aside0.mk ((by rw [hg]; exact Nat.ne_of_lt (blk_lt (g := gb101) (o := .cells #[.int .i64 a0_0, .int .i64 a0_1] 48 (0, 0)) (by (with_reducible repeat (first | refine blk_drewN ?_ _ | refine blk_drew ?_ | refine blk_alloc ?_ _)); exact BK101.out)) : gb101 ≠ gb102)); have n6_ := Aside0.mk ((by rw [hg]; exact Nat.ne_of_gt (blk_lt (g := gb101) (o := .cells #[.int .i64 a0_0, .int .i64 a0_1] 48 (0, 0)) (by (with_reducible repeat (first | refine blk_drewN ?_ _ | refine blk_drew ?_ | refine blk_alloc ?_ _)); exact BK101.out)) : gb102 ≠ gb101)); clear BK101; clear HB; have BK101 := n0_; have HB := n1_; have BK102 := n2_; have GW102 := n3_; have GE102 := n4_; have NB101_102 := n5_; have NB102_101 := n6_; clear n0_ n1_ n2_ n3_ n4_ n5_ n6_; clear hb hbox hg; have hnb7 := NB101_102.out; have hnc7 := NB102_101.out; have hcz8_0 : w6.cell? ⟨gb101, 0, none⟩ = some (.int .i64 a0_0) := (blk_cell BK101.out 0).trans rfl; have hcz8_1 : w6.cell? ⟨gb101, 1, none⟩ = some (.int .i64 a0_1) := (blk_cell BK101.out 1).trans rfl; have hfz8_0 := blk_frozen BK101.out 0; have hfz8_1 := blk_frozen BK101.out 1; have hcz9_0 : w6.cell? ⟨gb102, 0, none⟩ = some (.int .i64 a1_0) := (blk_cell BK102.out 0).trans rfl; have hcz9_1 : w6.cell? ⟨gb102, 1, none⟩ = some (.int .i64 a1_1) := (blk_cell BK102.out 1).trans rfl; have hfz9_0 := blk_frozen BK102.out 0; have hfz9_1 := blk_frozen BK102.out 1))
      go_ret
      exact ⟨by first | rfl | (simp [errW_none, errW_some] <;> rfl) | (simp [*, errW_none, errW_some] <;> rfl), by repeat (first | (with_reducible first | exact HB.out | apply below_alloc | apply pw_below_drewN | apply below_drew1 | refine below_set ?_ GE101.out | refine below_set ?_ GE102.out) | exact HB.out)⟩
    · rw [if_neg c4] at H
      have c4b0 : (a0_1 == a1_1) = false := beq_eq_false_iff_ne.mpr c4
      have c4b1 : (a0_1 != a1_1) = true := bne_iff_ne.mpr c4
      obtain rfl := Option.some.inj H
      go_enter Try.func119, Try.ntmps119
      go_wp2_with (first | ((with_reducible refine gate_dst (N := 2) rfl ?_); refine box_event ?hg (N := 2) ?hd (cs := #[.int .i64 a0_0, .int .i64 a0_1]) (t := 48) ?hr ?_; (case hd => rfl); (case hg => rfl); (case hr => first | (go_simp; done) | (go_simp; rfl)); intro gb101 hg w10 hbox hb; have n0_ := Aside0.mk (below_step (by repeat (first | (with_reducible first | exact HB.out | apply below_alloc | apply pw_below_drewN | apply below_drew1) | exact HB.out)) hb); have n1_ := Aside0.mk (hbox); have n2_ := Aside0.mk ((by rw [hg]; exact (below_size (by repeat (first | (with_reducible first | exact HB.out | apply below_alloc | apply pw_below_drewN | apply below_drew1) | exact HB.out))) : w.heap.size ≤ gb101)); have n3_ := Aside0.mk ((by rw [hg]; exact (below_size (by repeat (first | (with_reducible first | exact HB.out | apply below_alloc | apply pw_below_drewN | apply below_drew1) | exact HB.out))) : w.heap.size ≤ gb101)); clear HB; have HB := n0_; have BK101 := n1_; have GW101 := n2_; have GE101 := n3_; clear n0_ n1_ n2_ n3_; clear hb hbox hg) | ((with_reducible refine gate_dst (N := 3) rfl ?_); refine box_event ?hg (N := 3) ?hd (cs := #[.int .i64 a1_0, .int .i64 a1_1]) (t := 48) ?hr ?_; (case hd => rfl); (case hg => rfl); (case hr => first | (go_simp; done) | (go_simp; rfl)); intro gb102 hg w11 hbox hb; have n0_ := Aside0.mk (blk_below (g := gb101) (o := .cells #[.int .i64 a0_0, .int .i64 a0_1] 48 (0, 0)) (by (with_reducible repeat (first | refine blk_drewN ?_ _ | refine blk_drew ?_ | refine blk_alloc ?_ _)); exact BK101.out) hb); have n1_ := Aside0.mk (below_step (by repeat (first | (with_reducible first | exact HB.out | apply below_alloc | apply pw_below_drewN | apply below_drew1 | refine below_set ?_ GE101.out) | exact HB.out)) hb); have n2_ := Aside0.mk (hbox); have n3_ := Aside0.mk ((by rw [hg]; exact (below_size (by repeat (first | (with_reducible first | exact HB.out | apply below_alloc | apply pw_below_drewN | apply below_drew1 | refine below_set ?_ GE101.out) | exact HB.out))) : w.heap.size ≤ gb102)); have n4_ := Aside0.mk ((by rw [hg]; exact (below_size (by repeat (first | (with_reducible first | exact HB.out | apply below_alloc | apply pw_below_drewN | apply below_drew1 | refine below_set ?_ GE101.out) | exact HB.out))) : w.heap.size ≤ gb102)); have n5_ := Aside0.mk ((by rw [hg]; exact Nat.ne_of_lt (blk_lt (g := gb101) (o := .cells #[.int .i64 a0_0, .int .i64 a0_1] 48 (0, 0)) (by (with_reducible repeat (first | refine blk_drewN ?_ _ | refine blk_drew ?_ | refine blk_alloc ?_ _)); exact BK101.out)) : gb101 ≠ gb102)); have n6_ := Aside0.mk ((by rw [hg]; exact Nat.ne_of_gt (blk_lt (g := gb101) (o := .cells #[.int .i64 a0_0, .int .i64 a0_1] 48 (0, 0)) (by (with_reducible repeat (first | refine blk_drewN ?_ _ | refine blk_drew ?_ | refine blk_alloc ?_ _)); exact BK101.out)) : gb102 ≠ gb101)); clear BK101; clear HB; have BK101 := n0_; have HB := n1_; have BK102 := n2_; have GW102 := n3_; have GE102 := n4_; have NB101_102 := n5_; have NB102_101 := n6_; clear n0_ n1_ n2_ n3_ n4_ n5_ n6_; clear hb hbox hg; have hnb12 := NB101_102.out; have hnc12 := NB102_101.out; have hcz13_0 : w11.cell? ⟨gb101, 0, none⟩ = some (.int .i64 a0_0) := (blk_cell BK101.out 0).trans rfl; have hcz13_1 : w11.cell? ⟨gb101, 1, none⟩ = some (.int .i64 a0_1) := (blk_cell BK101.out 1).trans rfl; have hfz13_0 := blk_frozen BK101.out 0; have hfz13_1 := blk_frozen BK101.out 1; have hcz14_0 : w11.cell? ⟨gb102, 0, none⟩ = some (.int .i64 a1_0) := (blk_cell BK102.out 0).trans rfl; have hcz14_1 : w11.cell? ⟨gb102, 1, none⟩ = some (.int .i64 a1_1) := (blk_cell BK102.out 1).trans rfl; have hfz14_0 := blk_frozen BK102.out 0; have hfz14_1 := blk_frozen BK102.out 1))
      go_ret
      exact ⟨by first | rfl | (simp [errW_none, errW_some] <;> rfl) | (simp [*, errW_none, errW_some] <;> rfl), by repeat (first | (with_reducible first | exact HB.out | apply below_alloc | apply pw_below_drewN | apply below_drew1 | refine below_set ?_ GE101.out | refine below_set ?_ GE102.out) | exact HB.out)⟩
  · rw [if_neg c3] at H
    have c3b0 : (a0_0 == a1_0) = false := beq_eq_false_iff_ne.mpr c3
    have c3b1 : (a0_0 != a1_0) = true := bne_iff_ne.mpr c3
    obtain rfl := Option.some.inj H
    go_enter Try.func119, Try.ntmps119
    go_wp2_with (first | ((with_reducible refine gate_dst (N := 2) rfl ?_); refine box_event ?hg (N := 2) ?hd (cs := #[.int .i64 a0_0, .int .i64 a0_1]) (t := 48) ?hr ?_; (case hd => rfl); (case hg => rfl); (case hr => first | (go_simp; done) | (go_simp; rfl)); intro gb101 hg w15 hbox hb; have n0_ := Aside0.mk (below_step (by repeat (first | (with_reducible first | exact HB.out | apply below_alloc | apply pw_below_drewN | apply below_drew1) | exact HB.out)) hb); have n1_ := Aside0.mk (hbox); have n2_ := Aside0.mk ((by rw [hg]; exact (below_size (by repeat (first | (with_reducible first | exact HB.out | apply below_alloc | apply pw_below_drewN | apply below_drew1) | exact HB.out))) : w.heap.size ≤ gb101)); have n3_ := Aside0.mk ((by rw [hg]; exact (below_size (by repeat (first | (with_reducible first | exact HB.out | apply below_alloc | apply pw_below_drewN | apply below_drew1) | exact HB.out))) : w.heap.size ≤ gb101)); clear HB; have HB := n0_; have BK101 := n1_; have GW101 := n2_; have GE101 := n3_; clear n0_ n1_ n2_ n3_; clear hb hbox hg) | ((with_reducible refine gate_dst (N := 3) rfl ?_); refine box_event ?hg (N := 3) ?hd (cs := #[.int .i64 a1_0, .int .i64 a1_1]) (t := 48) ?hr ?_; (case hd => rfl); (case hg => rfl); (case hr => first | (go_simp; done) | (go_simp; rfl)); intro gb102 hg w16 hbox hb; have n0_ := Aside0.mk (blk_below (g := gb101) (o := .cells #[.int .i64 a0_0, .int .i64 a0_1] 48 (0, 0)) (by (with_reducible repeat (first | refine blk_drewN ?_ _ | refine blk_drew ?_ | refine blk_alloc ?_ _)); exact BK101.out) hb); have n1_ := Aside0.mk (below_step (by repeat (first | (with_reducible first | exact HB.out | apply below_alloc | apply pw_below_drewN | apply below_drew1 | refine below_set ?_ GE101.out) | exact HB.out)) hb); have n2_ := Aside0.mk (hbox); have n3_ := Aside0.mk ((by rw [hg]; exact (below_size (by repeat (first | (with_reducible first | exact HB.out | apply below_alloc | apply pw_below_drewN | apply below_drew1 | refine below_set ?_ GE101.out) | exact HB.out))) : w.heap.size ≤ gb102)); have n4_ := Aside0.mk ((by rw [hg]; exact (below_size (by repeat (first | (with_reducible first | exact HB.out | apply below_alloc | apply pw_below_drewN | apply below_drew1 | refine below_set ?_ GE101.out) | exact HB.out))) : w.heap.size ≤ gb102)); have n5_ := Aside0.mk ((by rw [hg]; exact Nat.ne_of_lt (blk_lt (g := gb101) (o := .cells #[.int .i64 a0_0, .int .i64 a0_1] 48 (0, 0)) (by (with_reducible repeat (first | refine blk_drewN ?_ _ | refine blk_drew ?_ | refine blk_alloc ?_ _)); exact BK101.out)) : gb101 ≠ gb102)); have n6_ := Aside0.mk ((by rw [hg]; exact Nat.ne_of_gt (blk_lt (g := gb101) (o := .cells #[.int .i64 a0_0, .int .i64 a0_1] 48 (0, 0)) (by (with_reducible repeat (first | refine blk_drewN ?_ _ | refine blk_drew ?_ | refine blk_alloc ?_ _)); exact BK101.out)) : gb102 ≠ gb101)); clear BK101; clear HB; have BK101 := n0_; have HB := n1_; have BK102 := n2_; have GW102 := n3_; have GE102 := n4_; have NB101_102 := n5_; have NB102_101 := n6_; clear n0_ n1_ n2_ n3_ n4_ n5_ n6_; clear hb hbox hg; have hnb17 := NB101_102.out; have hnc17 := NB102_101.out; have hcz18_0 : w16.cell? ⟨gb101, 0, none⟩ = some (.int .i64 a0_0) := (blk_cell BK101.out 0).trans rfl; have hcz18_1 : w16.cell? ⟨gb101, 1, none⟩ = some (.int .i64 a0_1) := (blk_cell BK101.out 1).trans rfl; have hfz18_0 := blk_frozen BK101.out 0; have hfz18_1 := blk_frozen BK101.out 1; have hcz19_0 : w16.cell? ⟨gb102, 0, none⟩ = some (.int .i64 a1_0) := (blk_cell BK102.out 0).trans rfl; have hcz19_1 : w16.cell? ⟨gb102, 1, none⟩ = some (.int .i64 a1_1) := (blk_cell BK102.out 1).trans rfl; have hfz19_0 := blk_frozen BK102.out 0; have hfz19_1 := blk_frozen BK102.out 1))
    go_ret
    exact ⟨by first | rfl | (simp [errW_none, errW_some] <;> rfl) | (simp [*, errW_none, errW_some] <;> rfl), by repeat (first | (with_reducible first | exact HB.out | apply below_alloc | apply pw_below_drewN | apply below_drew1 | refine below_set ?_ GE101.out | refine below_set ?_ GE102.out) | exact HB.out)⟩
end Go.Proofs.Ytcllkemhlhbdgaa.G
namespace Go.Proofs.Ytcllkemhlhbdgaa.G
open Go.RowKit Go.Proofs.YtcllkemhlhbdgaaW.PrintWords Go.Proofs.YtcllkemhlhbdgaaW.PrintLast Go.Proofs.YtcllkemhlhbdgaaW.PrintMore
attribute [local go_sem] max2_int min2_int max_two min_two max_three min_three max_four min_four
set_option linter.unusedVariables false
set_option linter.unusedSimpArgs false
def laws_eqOpS.l0 : Nat → List (S_impl_Op) → List (S_impl_Op) → Int → Option (Bool)
  | 0, _, _, _ => none
  | k + 1, x0, x1, x5 => if x5 < (x0.length : Int) then (if 0 ≤ x5 then (if x5 < (x1.length : Int) then ((laws_eqOp.f ((rd_impl_Op x0 x5).f0) ((rd_impl_Op x0 x5).f1) ((rd_impl_Op x1 x5).f0) ((rd_impl_Op x1 x5).f1)).bind fun t103 => (if t103 = true then (laws_eqOpS.l0 k x0 x1 (wrap64 (x5 + 1))) else (some false))) else (none)) else (none)) else (some true)
def laws_eqOpS.f (k : Nat) (l0 : List (S_impl_Op)) (l1 : List (S_impl_Op)) : Option (Bool) := if (l0.length : Int) = (l1.length : Int) then (laws_eqOpS.l0 k l0 l1 0) else (some false)
theorem laws_eqOpS.mono_l : ∀ k, (∀ y0 y1 y2, LeO (laws_eqOpS.l0 k y0 y1 y2) (laws_eqOpS.l0 (k + 1) y0 y1 y2))
  | 0 => fun _ _ _ r h => by simp [laws_eqOpS.l0] at h
  | k + 1 => by
    have ih0 := laws_eqOpS.mono_l k
    · intro y0 y1 y2
      unfold laws_eqOpS.l0
      repeat' first
      | (with_reducible exact ih0 _ _ _)
      | (with_reducible exact LeO.refl _)
      | (with_reducible exact LeO.none _)
      | (with_reducible refine LeO.ite ?_ ?_)
      | (with_reducible refine LeO.bind ?_ (fun _ => ?_))
      | exact ih0 _ _ _
      | exact LeO.none _
      | refine LeO.ite ?_ ?_
      | refine LeO.bind ?_ (fun _ => ?_)
theorem laws_eqOpS.mono : ∀ a0 a1 k, LeO (laws_eqOpS.f k a0 a1) (laws_eqOpS.f (k + 1) a0 a1) := by
  intro a0 a1 k
  have ih0 := laws_eqOpS.mono_l k
  unfold laws_eqOpS.f
  repeat' first
      | (with_reducible exact ih0 _ _ _)
      | (with_reducible exact LeO.refl _)
      | (with_reducible exact LeO.none _)
      | (with_reducible refine LeO.ite ?_ ?_)
      | (with_reducible refine LeO.bind ?_ (fun _ => ?_))
      | exact ih0 _ _ _
      | exact LeO.none _
      | refine LeO.ite ?_ ?_
      | refine LeO.bind ?_ (fun _ => ?_)
def laws_eqOpS.T6 : Bool × List (List Nat × List Nat) := (true, [([], []), ([], []), ([0, 1], [0, 1]), ([2], [2]), ([], []), ([], []), ([4, 5], [4, 5]), ([6], [6]), ([3, 7], [3, 7]), ([8], [8])])
def laws_eqOpS.B6 : List Nat := [0, 0, 3, 7, 0, 0, 48, 112, 255, 511]
theorem laws_eqOpS.tab6 : rtab .any (opsOf Try.f114 6) = laws_eqOpS.T6 := by kernel_rfl
theorem laws_eqOpS.bits6 : waitsOk laws_eqOpS.T6.2 laws_eqOpS.B6 = true := by kernel_rfl
set_option maxHeartbeats 8000000 in
set_option maxRecDepth 100000 in
theorem laws_eqOpS.calls (k : Nat) (A0 : Option Addr) (c0 : Nat) (l0 : List (S_impl_Op)) (A1 : Option Addr) (c1 : Nat) (l1 : List (S_impl_Op)) (r : Bool) (w : World) (hr0 : Kd.C k_impl_Op w A0 l0.length l0) (hc0 : l0.length ≤ c0) (hr1 : Kd.C k_impl_Op w A1 l1.length l1) (hc1 : l1.length ≤ c1) (h : laws_eqOpS.f k l0 l1 = some r) :
    Calls Try.prog 114 #[.slice A0 l0.length c0, .slice A1 l1.length c1] w fun e w' => e = .returned (.bool r) ∧ Below w.heap.size w w' := by
  have hu48 := Try.underlying48
  have HR0 := Aside0.mk hr0
  have HC0 := Aside0.mk hc0
  clear hr0 hc0
  have HR1 := Aside0.mk hr1
  have HC1 := Aside0.mk hc1
  clear hr1 hc1
  have HB := Aside0.mk (Below.refl w.heap.size w)
  have H : (if (l0.length : Int) = (l1.length : Int) then (laws_eqOpS.l0 k l0 l1 0) else (some false)) = some r := h
  clear h
  by_cases c3 : (l0.length : Int) = (l1.length : Int)
  · rw [if_pos c3] at H
    have c3b0 : ((l0.length : Int) == (l1.length : Int)) = true := beq_iff_eq.mpr c3
    have c3b1 : ((l0.length : Int) != (l1.length : Int)) = false := bne_eq_false_iff_eq.mpr c3
    have c3b2 : (l0.length == l1.length) = true := by first | simpa using c3 | (simp at c3 ⊢; omega)
    clear c3
    have H' := Aside0.mk H
    clear H
    go_enter Try.func114, Try.ntmps114
    go_wp2
    go_loopg [5] k (fun kq v5 w' => ∃ (x5_1 : Int), v5 = .int .i64 x5_1 ∧ Aside0 (laws_eqOpS.l0 kq l0 l1 x5_1 = some r) ∧ Aside0 (kq ≤ k) ∧ Aside0 (Below w.heap.size w w'))
    case atStart => exact ⟨(0), (by first | rfl | (simp; done) | (simp [*]; done)), H', ⟨Nat.le_refl _⟩, ⟨by repeat (first | (with_reducible first | exact HB.out | apply below_alloc | apply pw_below_drewN | apply below_drew1) | exact HB.out)⟩⟩
    case round =>
      clear H'
      try clear c1
      try clear p2
      try clear c3
      try clear c3b0
      try clear c3b1
      try clear c3b2
      obtain ⟨x5_1, rfl, HA, HK1, HB⟩ := hrel
      cases gk with
      | zero => exact absurd HA.out (by simp [laws_eqOpS.l0])
      | succ k1 =>
        have H := HA.out
        clear HA
        simp only [laws_eqOpS.l0] at H
        by_cases c4 : x5_1 < (l0.length : Int)
        · rw [if_pos c4] at H
          have c4b0 : decide (x5_1 < (l0.length : Int)) = true := decide_eq_true c4
          clear c4
          by_cases c5 : 0 ≤ x5_1
          · rw [if_pos c5] at H
            have c5b0 : decide (0 ≤ x5_1) = true := decide_eq_true c5
            clear c5
            by_cases c6 : x5_1 < (l1.length : Int)
            · rw [if_pos c6] at H
              have c6b0 : decide (x5_1 < (l1.length : Int)) = true := decide_eq_true c6
              clear c6
              replace H := Option.bind_eq_some_iff.mp H
              obtain ⟨t103, A70, H⟩ := H
              replace H : (if t103 = true then (laws_eqOpS.l0 k1 l0 l1 (wrap64 (x5_1 + 1))) else (some false)) = some r := H
              have A7 := Aside0.mk A70
              clear A70
              by_cases c8 : t103 = true
              · subst c8
                have H1 : (laws_eqOpS.l0 k1 l0 l1 (wrap64 (x5_1 + 1))) = some r := by rw [if_pos rfl] at H; exact H
                clear H
                have H := H1
                clear H1
                have H' := Aside0.mk H
                clear H
                try go_wp2
                have n0_ := Aside0.mk (below_drew1 HB.out)
                clear HB
                have HB := n0_
                clear n0_
                have p101 : 0 ≤ (x5_1 : Int) := of_decide_eq_true (by first | (with_reducible assumption) | assumption)
                have q101 : x5_1 < (l0.length : Int) := of_decide_eq_true (by first | (with_reducible assumption) | assumption)
                obtain ⟨ad101, e101, hx101_0, hx101_1⟩ := at_impl_Op HR0.out x5_1 p101 q101
                have hw101_1 := hx101_1
                have hw101_0 := hx101_0
                cases e101
                replace hx101_0 := (HB.out.cell (World.block_lt_of_cell? w _ hx101_0)).trans hx101_0
                replace hx101_1 := (HB.out.cell (World.block_lt_of_cell? w _ hx101_1)).trans hx101_1
                replace p101 := eq_true p101
                replace q101 := eq_true q101
                have p102 : 0 ≤ (x5_1 : Int) := of_decide_eq_true (by first | (with_reducible assumption) | assumption)
                have q102 : x5_1 < (l1.length : Int) := of_decide_eq_true (by first | (with_reducible assumption) | assumption)
                obtain ⟨ad102, e102, hx102_0, hx102_1⟩ := at_impl_Op HR1.out x5_1 p102 q102
                have hw102_1 := hx102_1
                have hw102_0 := hx102_0
                cases e102
                replace hx102_0 := (HB.out.cell (World.block_lt_of_cell? w _ hx102_0)).trans hx102_0
                replace hx102_1 := (HB.out.cell (World.block_lt_of_cell? w _ hx102_1)).trans hx102_1
                replace p102 := eq_true p102
                replace q102 := eq_true q102
                refine start_ (n := 10) (S := fun w' => w'.cell? (ad101.add ((x5_1).toNat * 2)) = some (.int .i64 ((rd_impl_Op l0 x5_1).f0)) ∧ w'.cell? ⟨(ad101.add ((x5_1).toNat * 2)).block, (ad101.add ((x5_1).toNat * 2)).off + 1, none⟩ = some (.int .i64 ((rd_impl_Op l0 x5_1).f1)) ∧ w'.cell? (ad102.add ((x5_1).toNat * 2)) = some (.int .i64 ((rd_impl_Op l1 x5_1).f0)) ∧ w'.cell? ⟨(ad102.add ((x5_1).toNat * 2)).block, (ad102.add ((x5_1).toNat * 2)).off + 1, none⟩ = some (.int .i64 ((rd_impl_Op l1 x5_1).f1))) (ds := []) #[false, false, false, false, false, false, false, false, false, false] (by kernel_rfl) rfl rfl ⟨((HB.out.cell (World.block_lt_of_cell? w _ hw101_0)).trans hw101_0), ((HB.out.cell (World.block_lt_of_cell? w _ hw101_1)).trans hw101_1), ((HB.out.cell (World.block_lt_of_cell? w _ hw102_0)).trans hw102_0), ((HB.out.cell (World.block_lt_of_cell? w _ hw102_1)).trans hw102_1)⟩ (fun hHeld => ?_); refine with_tabW laws_eqOpS.tab6 laws_eqOpS.bits6 (fun HT_ HW_ => ?_)
                generalize wr.drew = w9 at HB hx101_0 hx101_1 hx102_0 hx102_1 hHeld ⊢
                refine pure_ (i := 0) (N := some 17) (v := ?_) (a' := ?_) #[true, false, false, false, false, false, false, false, false, false] rfl rfl (any_of HT_.out (by kernel_rfl)) (fun _ _ _ h => h) (Or.inl ⟨by rfl, ?_⟩) ?_ ?_
                rotate_left
                · intro w'
                  go_simp
                  with_reducible rfl
                rotate_left
                · simp only [Act.put, List.setIfInBounds_toArray, List.set_cons_zero, List.set_cons_succ, i64_w, i32_w]
                  rfl
                refine pure_ (i := 1) (N := some 18) (v := ?_) (a' := ?_) #[true, true, false, false, false, false, false, false, false, false] rfl rfl (any_of HT_.out (by kernel_rfl)) (fun _ _ _ h => h) (Or.inl ⟨by rfl, ?_⟩) ?_ ?_
                rotate_left
                · intro w'
                  go_simp
                  with_reducible rfl
                rotate_left
                · simp only [Act.put, List.setIfInBounds_toArray, List.set_cons_zero, List.set_cons_succ, i64_w, i32_w]
                  rfl
                refine pure_ (i := 2) (N := some 19) (v := ?_) (a' := ?_) #[true, true, true, false, false, false, false, false, false, false] rfl rfl (any_of HT_.out (by kernel_rfl)) (fun _ _ _ h => h) (Or.inl ⟨by rfl, ?_⟩) ?_ ?_
                rotate_left
                · intro w'
                  go_simp
                  with_reducible rfl
                rotate_left
                · simp only [Act.put, List.setIfInBounds_toArray, List.set_cons_zero, List.set_cons_succ, i64_w, i32_w]
                  rfl
                refine pure_ (i := 4) (N := some 21) (v := ?_) (a' := ?_) #[true, true, true, false, true, false, false, false, false, false] rfl rfl (any_of HT_.out (by kernel_rfl)) (fun _ _ _ h => h) (Or.inl ⟨by rfl, ?_⟩) ?_ ?_
                rotate_left
                · intro w'
                  go_simp
                  with_reducible rfl
                rotate_left
                · simp only [Act.put, List.setIfInBounds_toArray, List.set_cons_zero, List.set_cons_succ, i64_w, i32_w]
                  rfl
                refine pure_ (i := 5) (N := some 22) (v := ?_) (a' := ?_) #[true, true, true, false, true, true, false, false, false, false] rfl rfl (any_of HT_.out (by kernel_rfl)) (fun _ _ _ h => h) (Or.inl ⟨by rfl, ?_⟩) ?_ ?_
                rotate_left
                · intro w'
                  go_simp
                  with_reducible rfl
                rotate_left
                · simp only [Act.put, List.setIfInBounds_toArray, List.set_cons_zero, List.set_cons_succ, i64_w, i32_w]
                  rfl
                refine pure_ (i := 6) (N := some 23) (v := ?_) (a' := ?_) #[true, true, true, false, true, true, true, false, false, false] rfl rfl (any_of HT_.out (by kernel_rfl)) (fun _ _ _ h => h) (Or.inl ⟨by rfl, ?_⟩) ?_ ?_
                rotate_left
                · intro w'
                  go_simp
                  with_reducible rfl
                rotate_left
                · simp only [Act.put, List.setIfInBounds_toArray, List.set_cons_zero, List.set_cons_succ, i64_w, i32_w]
                  rfl
                refine take_ (i := 3) (N := some 20) (v := ?_) (a' := ?_) #[true, true, true, true, true, true, true, false, false, false] rfl rfl (take_ofW HT_.out HW_.out (by kernel_rfl)) (fun _ _ _ h => h) (Or.inl ⟨by rfl, ?_⟩) hHeld ?_ ?_
                rotate_left
                · rintro w' ⟨s0, s1, s2, s3⟩
                  go_simp
                  with_reducible rfl
                rotate_left
                · simp only [Act.put, List.setIfInBounds_toArray, List.set_cons_zero, List.set_cons_succ, i64_w, i32_w]
                  rfl
                refine take_ (i := 7) (N := some 24) (v := ?_) (a' := ?_) #[true, true, true, true, true, true, true, true, false, false] rfl rfl (take_ofW HT_.out HW_.out (by kernel_rfl)) (fun _ _ _ h => h) (Or.inl ⟨by rfl, ?_⟩) hHeld ?_ ?_
                rotate_left
                · rintro w' ⟨s0, s1, s2, s3⟩
                  go_simp
                  with_reducible rfl
                rotate_left
                · simp only [Act.put, List.setIfInBounds_toArray, List.set_cons_zero, List.set_cons_succ, i64_w, i32_w]
                  rfl
                refine one_ (i := 8) (N := some 25) #[true, true, true, true, true, true, true, true, true, false] rfl rfl (one_of HT_.out (by kernel_rfl)) (by decide) (fun K hK => ?_)
                refine goes_ Try.func119 (by kernel_rfl) rfl #[.agg #[.int .i64 ((rd_impl_Op l0 x5_1).f0), .int .i64 ((rd_impl_Op l0 x5_1).f1)], .agg #[.int .i64 ((rd_impl_Op l1 x5_1).f0), .int .i64 ((rd_impl_Op l1 x5_1).f1)]] (by rfl) rfl rfl (by (try simp only [List.map_toArray, List.map_cons, List.map_nil]); first | done | rfl | (simp only [List.length_drop, List.length_take]; rfl)) ?_
                with_reducible refine (laws_eqOp.calls ((rd_impl_Op l0 x5_1).f0) ((rd_impl_Op l0 x5_1).f1) ((rd_impl_Op l1 x5_1).f0) ((rd_impl_Op l1 x5_1).f1) true _ A7.out).mono ?_
                rintro e w10 ⟨rfl, hb⟩
                refine ⟨_, rfl, ?_⟩
                have n0_ := Aside0.mk (below_step (by repeat (first | (with_reducible first | exact HB.out | apply below_alloc | apply pw_below_drewN | apply below_drew1) | exact HB.out)) hb)
                clear HB
                have HB := n0_
                clear n0_
                (try clear hb)
                (try clear hb2)
                (try clear hk)
                (try clear hi)
                refine hK.out _ _ ⟨((HB.out.cell (World.block_lt_of_cell? w _ hw101_0)).trans hw101_0), ((HB.out.cell (World.block_lt_of_cell? w _ hw101_1)).trans hw101_1), ((HB.out.cell (World.block_lt_of_cell? w _ hw102_0)).trans hw102_0), ((HB.out.cell (World.block_lt_of_cell? w _ hw102_1)).trans hw102_1)⟩ (fun hHeld => ?_)
                clear hK K
                refine norm_ (a' := ?_) ?_ ?_
                rotate_left
                · show Act.put _ (some 25) _ = _
                  simp only [Act.put, List.setIfInBounds_toArray, List.set_cons_zero, List.set_cons_succ, i64_w, i32_w]
                  rfl
                refine pure_ (i := 9) (N := some 26) (v := ?_) (a' := ?_) #[true, true, true, true, true, true, true, true, true, true] rfl rfl (any_of HT_.out (by kernel_rfl)) (fun _ _ _ h => h) (Or.inl ⟨by rfl, ?_⟩) ?_ ?_
                rotate_left
                · intro w'
                  go_simp
                  with_reducible rfl
                rotate_left
                · simp only [Act.put, List.setIfInBounds_toArray, List.set_cons_zero, List.set_cons_succ, i64_w, i32_w]
                  rfl
                refine done_ (done_of HT_.out (by kernel_rfl)) ?_
                try go_wp2
                go_roundg k1
                case measure => have := HK1.out; omega
                case rel => exact ⟨(wrap64 (x5_1 + 1)), (by first | rfl | (simp; done) | (simp [*]; done)), H', ⟨by have := HK1.out; omega⟩, ⟨by repeat (first | (with_reducible first | exact HB.out | apply below_alloc | apply pw_below_drewN | apply below_drew1) | exact HB.out)⟩⟩
              · replace c8 := Bool.eq_false_iff.mpr c8
                subst c8
                have H1 : (some false) = some r := by rw [if_neg (show ¬ (false = true) by decide)] at H; exact H
                clear H
                have H := H1
                clear H1
                obtain rfl := Option.some.inj H
                try go_wp2
                have n0_ := Aside0.mk (below_drew1 HB.out)
                clear HB
                have HB := n0_
                clear n0_
                have p101 : 0 ≤ (x5_1 : Int) := of_decide_eq_true (by first | (with_reducible assumption) | assumption)
                have q101 : x5_1 < (l0.length : Int) := of_decide_eq_true (by first | (with_reducible assumption) | assumption)
                obtain ⟨ad101, e101, hx101_0, hx101_1⟩ := at_impl_Op HR0.out x5_1 p101 q101
                have hw101_1 := hx101_1
                have hw101_0 := hx101_0
                cases e101
                replace hx101_0 := (HB.out.cell (World.block_lt_of_cell? w _ hx101_0)).trans hx101_0
                replace hx101_1 := (HB.out.cell (World.block_lt_of_cell? w _ hx101_1)).trans hx101_1
                replace p101 := eq_true p101
                replace q101 := eq_true q101
                have p102 : 0 ≤ (x5_1 : Int) := of_decide_eq_true (by first | (with_reducible assumption) | assumption)
                have q102 : x5_1 < (l1.length : Int) := of_decide_eq_true (by first | (with_reducible assumption) | assumption)
                obtain ⟨ad102, e102, hx102_0, hx102_1⟩ := at_impl_Op HR1.out x5_1 p102 q102
                have hw102_1 := hx102_1
                have hw102_0 := hx102_0
                cases e102
                replace hx102_0 := (HB.out.cell (World.block_lt_of_cell? w _ hx102_0)).trans hx102_0
                replace hx102_1 := (HB.out.cell (World.block_lt_of_cell? w _ hx102_1)).trans hx102_1
                replace p102 := eq_true p102
                replace q102 := eq_true q102
                refine start_ (n := 10) (S := fun w' => w'.cell? (ad101.add ((x5_1).toNat * 2)) = some (.int .i64 ((rd_impl_Op l0 x5_1).f0)) ∧ w'.cell? ⟨(ad101.add ((x5_1).toNat * 2)).block, (ad101.add ((x5_1).toNat * 2)).off + 1, none⟩ = some (.int .i64 ((rd_impl_Op l0 x5_1).f1)) ∧ w'.cell? (ad102.add ((x5_1).toNat * 2)) = some (.int .i64 ((rd_impl_Op l1 x5_1).f0)) ∧ w'.cell? ⟨(ad102.add ((x5_1).toNat * 2)).block, (ad102.add ((x5_1).toNat * 2)).off + 1, none⟩ = some (.int .i64 ((rd_impl_Op l1 x5_1).f1))) (ds := []) #[false, false, false, false, false, false, false, false, false, false] (by kernel_rfl) rfl rfl ⟨((HB.out.cell (World.block_lt_of_cell? w _ hw101_0)).trans hw101_0), ((HB.out.cell (World.block_lt_of_cell? w _ hw101_1)).trans hw101_1), ((HB.out.cell (World.block_lt_of_cell? w _ hw102_0)).trans hw102_0), ((HB.out.cell (World.block_lt_of_cell? w _ hw102_1)).trans hw102_1)⟩ (fun hHeld => ?_); refine with_tabW laws_eqOpS.tab6 laws_eqOpS.bits6 (fun HT_ HW_ => ?_)
                generalize wr.drew = w11 at HB hx101_0 hx101_1 hx102_0 hx102_1 hHeld ⊢
                refine pure_ (i := 0) (N := some 17) (v := ?_) (a' := ?_) #[true, false, false, false, false, false, false, false, false, false] rfl rfl (any_of HT_.out (by kernel_rfl)) (fun _ _ _ h => h) (Or.inl ⟨by rfl, ?_⟩) ?_ ?_
                rotate_left
                · intro w'
                  go_simp
                  with_reducible rfl
                rotate_left
                · simp only [Act.put, List.setIfInBounds_toArray, List.set_cons_zero, List.set_cons_succ, i64_w, i32_w]
                  rfl
                refine pure_ (i := 1) (N := some 18) (v := ?_) (a' := ?_) #[true, true, false, false, false, false, false, false, false, false] rfl rfl (any_of HT_.out (by kernel_rfl)) (fun _ _ _ h => h) (Or.inl ⟨by rfl, ?_⟩) ?_ ?_
                rotate_left
                · intro w'
                  go_simp
                  with_reducible rfl
                rotate_left
                · simp only [Act.put, List.setIfInBounds_toArray, List.set_cons_zero, List.set_cons_succ, i64_w, i32_w]
                  rfl
                refine pure_ (i := 2) (N := some 19) (v := ?_) (a' := ?_) #[true, true, true, false, false, false, false, false, false, false] rfl rfl (any_of HT_.out (by kernel_rfl)) (fun _ _ _ h => h) (Or.inl ⟨by rfl, ?_⟩) ?_ ?_
                rotate_left
                · intro w'
                  go_simp
                  with_reducible rfl
                rotate_left
                · simp only [Act.put, List.setIfInBounds_toArray, List.set_cons_zero, List.set_cons_succ, i64_w, i32_w]
                  rfl
                refine pure_ (i := 4) (N := some 21) (v := ?_) (a' := ?_) #[true, true, true, false, true, false, false, false, false, false] rfl rfl (any_of HT_.out (by kernel_rfl)) (fun _ _ _ h => h) (Or.inl ⟨by rfl, ?_⟩) ?_ ?_
                rotate_left
                · intro w'
                  go_simp
                  with_reducible rfl
                rotate_left
                · simp only [Act.put, List.setIfInBounds_toArray, List.set_cons_zero, List.set_cons_succ, i64_w, i32_w]
                  rfl
                refine pure_ (i := 5) (N := some 22) (v := ?_) (a' := ?_) #[true, true, true, false, true, true, false, false, false, false] rfl rfl (any_of HT_.out (by kernel_rfl)) (fun _ _ _ h => h) (Or.inl ⟨by rfl, ?_⟩) ?_ ?_
                rotate_left
                · intro w'
                  go_simp
                  with_reducible rfl
                rotate_left
                · simp only [Act.put, List.setIfInBounds_toArray, List.set_cons_zero, List.set_cons_succ, i64_w, i32_w]
                  rfl
                refine pure_ (i := 6) (N := some 23) (v := ?_) (a' := ?_) #[true, true, true, false, true, true, true, false, false, false] rfl rfl (any_of HT_.out (by kernel_rfl)) (fun _ _ _ h => h) (Or.inl ⟨by rfl, ?_⟩) ?_ ?_
                rotate_left
                · intro w'
                  go_simp
                  with_reducible rfl
                rotate_left
                · simp only [Act.put, List.setIfInBounds_toArray, List.set_cons_zero, List.set_cons_succ, i64_w, i32_w]
                  rfl
                refine take_ (i := 3) (N := some 20) (v := ?_) (a' := ?_) #[true, true, true, true, true, true, true, false, false, false] rfl rfl (take_ofW HT_.out HW_.out (by kernel_rfl)) (fun _ _ _ h => h) (Or.inl ⟨by rfl, ?_⟩) hHeld ?_ ?_
                rotate_left
                · rintro w' ⟨s0, s1, s2, s3⟩
                  go_simp
                  with_reducible rfl
                rotate_left
                · simp only [Act.put, List.setIfInBounds_toArray, List.set_cons_zero, List.set_cons_succ, i64_w, i32_w]
                  rfl
                refine take_ (i := 7) (N := some 24) (v := ?_) (a' := ?_) #[true, true, true, true, true, true, true, true, false, false] rfl rfl (take_ofW HT_.out HW_.out (by kernel_rfl)) (fun _ _ _ h => h) (Or.inl ⟨by rfl, ?_⟩) hHeld ?_ ?_
                rotate_left
                · rintro w' ⟨s0, s1, s2, s3⟩
                  go_simp
                  with_reducible rfl
                rotate_left
                · simp only [Act.put, List.setIfInBounds_toArray, List.set_cons_zero, List.set_cons_succ, i64_w, i32_w]
                  rfl
                refine one_ (i := 8) (N := some 25) #[true, true, true, true, true, true, true, true, true, false] rfl rfl (one_of HT_.out (by kernel_rfl)) (by decide) (fun K hK => ?_)
                refine goes_ Try.func119 (by kernel_rfl) rfl #[.agg #[.int .i64 ((rd_impl_Op l0 x5_1).f0), .int .i64 ((rd_impl_Op l0 x5_1).f1)], .agg #[.int .i64 ((rd_impl_Op l1 x5_1).f0), .int .i64 ((rd_impl_Op l1 x5_1).f1)]] (by rfl) rfl rfl (by (try simp only [List.map_toArray, List.map_cons, List.map_nil]); first | done | rfl | (simp only [List.length_drop, List.length_take]; rfl)) ?_
                with_reducible refine (laws_eqOp.calls ((rd_impl_Op l0 x5_1).f0) ((rd_impl_Op l0 x5_1).f1) ((rd_impl_Op l1 x5_1).f0) ((rd_impl_Op l1 x5_1).f1) false _ A7.out).mono ?_
                rintro e w12 ⟨rfl, hb⟩
                refine ⟨_, rfl, ?_⟩
                have n0_ := Aside0.mk (below_step (by repeat (first | (with_reducible first | exact HB.out | apply below_alloc | apply pw_below_drewN | apply below_drew1) | exact HB.out)) hb)
                clear HB
                have HB := n0_
                clear n0_
                (try clear hb)
                (try clear hb2)
                (try clear hk)
                (try clear hi)
                refine hK.out _ _ ⟨((HB.out.cell (World.block_lt_of_cell? w _ hw101_0)).trans hw101_0), ((HB.out.cell (World.block_lt_of_cell? w _ hw101_1)).trans hw101_1), ((HB.out.cell (World.block_lt_of_cell? w _ hw102_0)).trans hw102_0), ((HB.out.cell (World.block_lt_of_cell? w _ hw102_1)).trans hw102_1)⟩ (fun hHeld => ?_)
                clear hK K
                refine norm_ (a' := ?_) ?_ ?_
                rotate_left
                · show Act.put _ (some 25) _ = _
                  simp only [Act.put, List.setIfInBounds_toArray, List.set_cons_zero, List.set_cons_succ, i64_w, i32_w]
                  rfl
                refine pure_ (i := 9) (N := some 26) (v := ?_) (a' := ?_) #[true, true, true, true, true, true, true, true, true, true] rfl rfl (any_of HT_.out (by kernel_rfl)) (fun _ _ _ h => h) (Or.inl ⟨by rfl, ?_⟩) ?_ ?_
                rotate_left
                · intro w'
                  go_simp
                  with_reducible rfl
                rotate_left
                · simp only [Act.put, List.setIfInBounds_toArray, List.set_cons_zero, List.set_cons_succ, i64_w, i32_w]
                  rfl
                refine done_ (done_of HT_.out (by kernel_rfl)) ?_
                try go_wp2
                go_ret
                exact ⟨by first | rfl | (simp [errW_none, errW_some] <;> rfl) | (simp [*, errW_none, errW_some] <;> rfl), by repeat (first | (with_reducible first | exact HB.out | apply below_alloc | apply pw_below_drewN | apply below_drew1) | exact HB.out)⟩
            · rw [if_neg c6] at H
              exact absurd H (by simp)
          · rw [if_neg c5] at H
            exact absurd H (by simp)
        · rw [if_neg c4] at H
          have c4b0 : decide (x5_1 < (l0.length : Int)) = false := decide_eq_false c4
          clear c4
          obtain rfl := Option.some.inj H
          go_wp2
          go_ret
          exact ⟨by first | rfl | (simp [errW_none, errW_some] <;> rfl) | (simp [*, errW_none, errW_some] <;> rfl), by repeat (first | (with_reducible first | exact HB.out | apply below_alloc | apply pw_below_drewN | apply below_drew1) | exact HB.out)⟩
  · rw [if_neg c3] at H
    have c3b0 : ((l0.length : Int) == (l1.length : Int)) = false := beq_eq_false_iff_ne.mpr c3
    have c3b1 : ((l0.length : Int) != (l1.length : Int)) = true := bne_iff_ne.mpr c3
    have c3b2 : (l0.length == l1.length) = false := by first | simpa using c3 | (simp at c3 ⊢; omega)
    obtain rfl := Option.some.inj H
    go_enter Try.func114, Try.ntmps114
    go_wp2
    go_ret
    exact ⟨by first | rfl | (simp [errW_none, errW_some] <;> rfl) | (simp [*, errW_none, errW_some] <;> rfl), by repeat (first | (with_reducible first | exact HB.out | apply below_alloc | apply pw_below_drewN | apply below_drew1) | exact HB.out)⟩
end Go.Proofs.Ytcllkemhlhbdgaa.G
