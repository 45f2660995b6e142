import Derived.Test.YtabcijheemjplaaK504cd682
import Derived.Test.YtabcijheemjplaaKb4693349
import Derived.Laws.EntriesVeiled
import Derived.IntWalk
import Derived.Deep.RegionHeld3
import Derived.Shelf.Abstract
import Derived.Test.YtabcijheemjplaaKa386a121
namespace Go.Proofs.Ytabcijheemjplaa.G
open Go.RowKit Go.Proofs.YtabcijheemjplaaW.PrintWords Go.Proofs.YtabcijheemjplaaW.PrintLast Go.Proofs.YtabcijheemjplaaW.PrintMore
attribute [local go_sem] Qa3 Qa4 Qbc Qbd QaP QaQ Qa5 Qa6
set_option linter.unusedVariables false
set_option linter.unusedSimpArgs false
def opOkB (nl : Nat) (y : Int) (no : Nat) (k a : Int) : Bool :=
 if 1 ≤ k ∧ k ≤ 18 then (if mG k.toNat = none then decide (a = 0) else decide (0 ≤ a ∧ a ≤ mMost k.toNat nl y no - 1)) else false
theorem most_range (n n0 n2 : Nat) (y : Int) (h0 : 0 ≤ y) (h1 : y ≤ 4) (a : n0 ≤ 9223372036854775807) (b : n2 ≤ 9223372036854775807) : 0 ≤ mMost n n0 y n2 ∧ mMost n n0 y n2 ≤ 9223372036854775807 := by
 unfold mMost
 by_cases hn : n < 19
 · have h : n = 0 ∨ n = 1 ∨ n = 2 ∨ n = 3 ∨ n = 4 ∨ n = 5 ∨ n = 6 ∨ n = 7 ∨ n = 8 ∨ n = 9 ∨ n = 10 ∨ n = 11 ∨ n = 12 ∨ n = 13 ∨ n = 14 ∨ n = 15 ∨ n = 16 ∨ n = 17 ∨ n = 18 := by omega
   rcases h with rfl | rfl | rfl | rfl | rfl | rfl | rfl | rfl | rfl | rfl | rfl | rfl | rfl | rfl | rfl | rfl | rfl | rfl | rfl <;> simp <;> omega
 · rw [List.getD_eq_getElem?_getD, List.getElem?_eq_none (by simp; omega)]
   simp
set_option maxHeartbeats 1000000 in
theorem in_any (n lo hi : Int) (w : World) : Calls Try.prog 62 #[.int .i64 n, .int .i64 lo, .int .i64 hi] w fun e w' => e = .returned (.bool (decide (lo ≤ n ∧ n ≤ hi))) ∧ w = w' := by
 by_cases h1 : lo ≤ n
 · have d1 : decide (lo ≤ n) = true := decide_eq_true h1
   by_cases h2 : n ≤ hi
   · have d2 : decide (n ≤ hi) = true := decide_eq_true h2
     have d : decide (lo ≤ n ∧ n ≤ hi) = true := decide_eq_true ⟨h1, h2⟩
     rw [d]
     clear h1 h2 d
     go_enter Try.func62, Try.ntmps62
     go_wp2
     go_ret
     exact ⟨rfl, rfl⟩
   · have d2 : decide (n ≤ hi) = false := decide_eq_false h2
     have d : decide (lo ≤ n ∧ n ≤ hi) = false := decide_eq_false (fun h => h2 h.2)
     rw [d]
     clear h1 h2 d
     go_enter Try.func62, Try.ntmps62
     go_wp2
     go_ret
     exact ⟨rfl, rfl⟩
 · have d1 : decide (lo ≤ n) = false := decide_eq_false h1
   have d : decide (lo ≤ n ∧ n ≤ hi) = false := decide_eq_false (fun h => h1 h.1)
   rw [d]
   clear h1 d
   go_enter Try.func62, Try.ntmps62
   go_wp2
   go_ret
   exact ⟨rfl, rfl⟩
theorem mG_enters {n g : Nat} {o : Option Nat} (h1 : 1 ≤ n) (h2 : n ≤ 18) (hG : mG n = some (g, o)) : ∀ args w, (callFunc g args).run Try.prog w = .ok (.enter g args) w := by
 rcases mG_cases h1 h2 hG with rfl | rfl | rfl | rfl | rfl | rfl | rfl | rfl <;> (simp only [mG, List.getD_cons_succ, List.getD_cons_zero, Option.some.injEq, Prod.mk.injEq] at hG; obtain ⟨rfl, rfl⟩ := hG)
 · exact enters_of Try.func143 (by kernel_rfl) rfl
 · exact enters_of Try.func144 (by kernel_rfl) rfl
 · exact enters_of Try.func144 (by kernel_rfl) rfl
 · exact enters_of Try.func145 (by kernel_rfl) rfl
 · exact enters_of Try.func145 (by kernel_rfl) rfl
 · exact enters_of Try.func146 (by kernel_rfl) rfl
 · exact enters_of Try.func143 (by kernel_rfl) rfl
 · exact enters_of Try.func143 (by kernel_rfl) rfl
theorem eql_nilFunc : ∀ w, (binOp .eql 128 .nilFunc .nilFunc).run Try.prog w = .ok (.bool true) w := fun _ => by kernel_rfl
theorem eql_func (g : Nat) (lb : Array Value) : ∀ w, (binOp .eql 128 (.func (.func g) #[] lb) .nilFunc).run Try.prog w = .ok (.bool false) w := fun _ => by kernel_rfl
theorem three_boxes {w w1 : World} {o1 o2 o3 : Obj} (h : Below (((w.alloc o1).alloc o2).alloc o3).heap.size (((w.alloc o1).alloc o2).alloc o3) w1) : w1.heap[w.heap.size]? = some o1 ∧ w1.heap[w.heap.size + 1]? = some o2 ∧ w1.heap[w.heap.size + 2]? = some o3 ∧ Below w.heap.size w w1 ∧ w.heap.size + 2 < w1.heap.size := by
 have h1 : (((w.alloc o1).alloc o2).alloc o3).heap[w.heap.size]? = some o1 := by
  show (((w.heap.push o1).push o2).push o3)[_]? = _
  simp only [Array.getElem?_push, Array.size_push]
  repeat (first | rw [if_pos trivial] | rw [if_pos (by omega)] | rw [if_neg (by omega)])
 have h2 : (((w.alloc o1).alloc o2).alloc o3).heap[w.heap.size + 1]? = some o2 := by
  show (((w.heap.push o1).push o2).push o3)[_]? = _
  simp only [Array.getElem?_push, Array.size_push]
  repeat (first | rw [if_pos trivial] | rw [if_pos (by omega)] | rw [if_neg (by omega)])
 have h3 : (((w.alloc o1).alloc o2).alloc o3).heap[w.heap.size + 2]? = some o3 := by
  show (((w.heap.push o1).push o2).push o3)[_]? = _
  simp only [Array.getElem?_push, Array.size_push]
  repeat (first | rw [if_pos trivial] | rw [if_pos (by omega)] | rw [if_neg (by omega)])
 refine ⟨(h.block _ (Qb1 h1)).trans h1, (h.block _ (Qb1 h2)).trans h2, (h.block _ (Qb1 h3)).trans h3, ?_, ?_⟩
 · exact Qac (QaG (QaG (QaG (Below.refl _ _) _) _) _) h
 · have := h.size
   simp at this
   omega
set_option maxHeartbeats 2000000 in
set_option maxRecDepth 100000 in
theorem opok_no (k a : Int) (A0 : Option Addr) (n0 c0 : Nat) (x y : Int) (A2 : Option Addr) (n2 c2 : Nat) (w : World) (h : ¬ (1 ≤ k ∧ k ≤ 18)) :
 Calls Try.prog 67 #[.agg #[.int .i64 k, .int .i64 a], .agg #[.slice A0 n0 c0], .agg #[.int .i64 x, .int .i64 y, .slice A2 n2 c2]] w fun e w' => e = .returned (.bool false) ∧ Below w.heap.size w w' := by
 have H := Aside0.mk h
 clear h
 go_enter Try.func67, Try.ntmps67
 go_wp2_with (go_at_call 109; refine (mannerOf_no _ _ H.out).mono ?_; rintro e w1 ⟨rfl, hb⟩; obtain ⟨hb1, hb2, hb3, hb4, hb5⟩ := three_boxes hb; have HB := Aside0.mk hb4; clear hb hb4)
 go_ret
 exact ⟨rfl, by repeat (first | exact HB.out | apply QaG)⟩
set_option maxHeartbeats 2000000 in
set_option maxRecDepth 100000 in
theorem opok_nil (k a : Int) (A0 : Option Addr) (n0 c0 : Nat) (x y : Int) (A2 : Option Addr) (n2 c2 : Nat) (w : World) (h1 : 1 ≤ k) (h2 : k ≤ 18) (hF : mG k.toNat = none) :
 Calls Try.prog 67 #[.agg #[.int .i64 k, .int .i64 a], .agg #[.slice A0 n0 c0], .agg #[.int .i64 x, .int .i64 y, .slice A2 n2 c2]] w fun e w' => e = .returned (.bool (decide (a = 0))) ∧ Below w.heap.size w w' := by
 have H1 := Aside0.mk h1
 have H2 := Aside0.mk h2
 have HF := Aside0.mk hF
 clear h1 h2 hF
 have hq := eql_nilFunc
 go_enter Try.func67, Try.ntmps67
 go_wp2_with (go_at_call 109; refine (mannerOf_nil _ _ H1.out H2.out HF.out).mono ?_; rintro e w1 ⟨b, rfl, hm, hge, hb⟩; obtain ⟨hb1, hb2, hb3, hb4, hb5⟩ := three_boxes hb; have HB := Aside0.mk hb4; have hlt1 : w.heap.size < w1.heap.size := Nat.lt_of_succ_lt (Nat.lt_of_succ_lt hb5); clear hb hb4 hm hge; have z1 : w1.cell? ⟨w.heap.size, 1, none⟩ = some (.int .i64 a) := Qab hb1 1)
 go_ret
 exact ⟨rfl, by repeat (first | exact HB.out | apply QaG)⟩
set_option maxHeartbeats 4000000 in
set_option maxRecDepth 100000 in
theorem opok_fn (k a : Int) (A0 : Option Addr) (n0 c0 : Nat) (x y : Int) (A2 : Option Addr) (n2 c2 : Nat) (w : World) (g : Nat) (o : Option Nat) (h1 : 1 ≤ k) (h2 : k ≤ 18) (hF : mG k.toNat = some (g, o)) (hy0 : 0 ≤ y) (hy1 : y ≤ 4) (hn0 : n0 ≤ 9223372036854775807) (hn2 : n2 ≤ 9223372036854775807) :
 Calls Try.prog 67 #[.agg #[.int .i64 k, .int .i64 a], .agg #[.slice A0 n0 c0], .agg #[.int .i64 x, .int .i64 y, .slice A2 n2 c2]] w fun e w' => e = .returned (.bool (decide (0 ≤ a ∧ a ≤ mMost k.toNat n0 y n2 - 1))) ∧ Below w.heap.size w w' := by
 have H1 := Aside0.mk h1
 have H2 := Aside0.mk h2
 have HF := Aside0.mk hF
 have eg := mG_enters (n := k.toNat) (by omega) (by omega) hF
 have hM := most_range k.toNat n0 n2 y hy0 hy1 hn0 hn2
 clear h1 h2 hF hn0 hn2 hy0 hy1
 have hq := eql_func g
 go_enter Try.func67, Try.ntmps67
 go_wp2_with (go_at_call 109; refine (mannerOf_fn _ _ _ _ H1.out H2.out HF.out).mono ?_; rintro e w1 ⟨b, rfl, hm, hge, hb⟩; obtain ⟨hb1, hb2, hb3, hb4, hb5⟩ := three_boxes hb; have HB := Aside0.mk hb4; have HM := Aside0.mk hm; have hlt1 : w.heap.size < w1.heap.size := Nat.lt_of_succ_lt (Nat.lt_of_succ_lt hb5); have hlt2 : w.heap.size + 1 < w1.heap.size := Nat.lt_of_succ_lt hb5; clear hb hb4 hm hge; have z1 : w1.cell? ⟨w.heap.size, 1, none⟩ = some (.int .i64 a) := Qab hb1 1; have z2 : w1.cell? ⟨w.heap.size + 1, 0, none⟩ = some (.slice A0 n0 c0) := Qab hb2 0; have z3 : w1.cell? ⟨w.heap.size + 1 + 1, 0, none⟩ = some (.int .i64 x) := Qab hb3 0; have z4 : w1.cell? ⟨w.heap.size + 1 + 1, 1, none⟩ = some (.int .i64 y) := Qab hb3 1; have z5 : w1.cell? ⟨w.heap.size + 1 + 1, 2, none⟩ = some (.slice A2 n2 c2) := Qab hb3 2)
 go_region_held3 (fun w' => w'.cell? ⟨w.heap.size, 1, none⟩ = some (.int .i64 a) ∧ w'.cell? ⟨w1.heap.size, 4, none⟩ = some (.func (.func g) #[] (mLb b o)) ∧ w'.cell? ⟨w.heap.size + 1, 0, none⟩ = some (.slice A0 n0 c0) ∧ w'.cell? ⟨w.heap.size + 1 + 1, 0, none⟩ = some (.int .i64 x) ∧ w'.cell? ⟨w.heap.size + 1 + 1, 1, none⟩ = some (.int .i64 y) ∧ w'.cell? ⟨w.heap.size + 1 + 1, 2, none⟩ = some (.slice A2 n2 c2))
  (first | go_keep | exact ⟨y1, y2, y3, y4, y5, y6⟩)
  (first | (go_at_fn g; refine (most_any (n := k.toNat) (o := o) (by exact HM.out.kept (by repeat (first | exact Below.refl _ _ | apply QaG | apply QbV | apply Qa7))) (by have := H1.out; omega) (by have := H2.out; omega) HF.out A0 n0 c0 x y A2 n2 c2).mono ?_; rintro e w2 ⟨rfl, hb2⟩; have y1 := Qbx hb2 (a := ⟨w.heap.size, 1, none⟩) (v := .int .i64 a) (by go_keep); have y2 := Qbx hb2 (a := ⟨w1.heap.size, 4, none⟩) (v := .func (.func g) #[] (mLb b o)) (by go_keep); have y3 := Qbx hb2 (a := ⟨w.heap.size + 1, 0, none⟩) (v := .slice A0 n0 c0) (by go_keep); have y4 := Qbx hb2 (a := ⟨w.heap.size + 1 + 1, 0, none⟩) (v := .int .i64 x) (by go_keep); have y5 := Qbx hb2 (a := ⟨w.heap.size + 1 + 1, 1, none⟩) (v := .int .i64 y) (by go_keep); have y6 := Qbx hb2 (a := ⟨w.heap.size + 1 + 1, 2, none⟩) (v := .slice A2 n2 c2) (by go_keep); have HB2 := Aside0.mk (Qac (by repeat (first | exact HB.out | apply QaG | apply QbV | apply Qa7) : Below w.heap.size w _) hb2); clear hb2) | (go_at_call 62; refine (in_any _ _ _ _).mono ?_; rintro e w3 ⟨rfl, rfl⟩))
 go_wp2
 go_ret
 refine ⟨?_, by repeat (first | exact HB2.out | apply QaG | apply QbV | apply Qa7)⟩
 show Ending.returned (.bool (decide (0 ≤ a) && decide (a ≤ IntKind.i64.wrap (mMost k.toNat n0 y n2 - 1)))) = _
 rw [IntWalk.i64_in _ (by omega), Bool.decide_and]
theorem opok_calls (k a : Int) (A0 : Option Addr) (n0 c0 : Nat) (x y : Int) (A2 : Option Addr) (n2 c2 : Nat) (w : World) (hy0 : 0 ≤ y) (hy1 : y ≤ 4) (hn0 : n0 ≤ 9223372036854775807) (hn2 : n2 ≤ 9223372036854775807) :
 Calls Try.prog 67 #[.agg #[.int .i64 k, .int .i64 a], .agg #[.slice A0 n0 c0], .agg #[.int .i64 x, .int .i64 y, .slice A2 n2 c2]] w fun e w' => e = .returned (.bool (opOkB n0 y n2 k a)) ∧ Below w.heap.size w w' := by
 unfold opOkB
 by_cases hk : 1 ≤ k ∧ k ≤ 18
 · rw [if_pos hk]
   cases hg : mG k.toNat with
   | none => rw [if_pos rfl]; exact opok_nil k a A0 n0 c0 x y A2 n2 c2 w hk.1 hk.2 hg
   | some go => rw [if_neg (by simp)]; exact opok_fn k a A0 n0 c0 x y A2 n2 c2 w go.1 go.2 hk.1 hk.2 hg hy0 hy1 hn0 hn2
 · rw [if_neg hk]
   exact opok_no k a A0 n0 c0 x y A2 n2 c2 w hk
end Go.Proofs.Ytabcijheemjplaa.G
namespace Go.Proofs.Ytabcijheemjplaa.G
open Go.RowKit Go.Proofs.YtabcijheemjplaaW.PrintWords Go.Proofs.YtabcijheemjplaaW.PrintLast Go.Proofs.YtabcijheemjplaaW.PrintMore
attribute [local go_sem] Qa3 Qa4 Qbc Qbd QaP QaQ Qa5 Qa6
set_option linter.unusedVariables false
set_option linter.unusedSimpArgs false
def QbT (nl : Nat) (m : Qai) : Bool :=
 if 0 ≤ m.f0 ∧ m.f0 ≤ 2 ∧ m.f0 ≤ m.f1 ∧ m.f1 ≤ 4 ∧ m.f2.length ≤ 14 then m.f2.any (fun op => !opOkB nl m.f1 m.f2.length op.f0 op.f1) else true
def progOkB (l : List Qai) : Bool :=
 if 1 ≤ l.length ∧ l.length ≤ 4 ∧ (Qae l 0).f0 = 0 then !(l.any (QbT l.length)) else false
set_option maxHeartbeats 2000000 in
set_option maxRecDepth 100000 in
theorem progok11 (k a : Int) (bp bm : Nat) (A0 : Option Addr) (n0 c0 : Nat) (x y : Int) (A2 : Option Addr) (n2 c2 : Nat) (w : World) (hy0 : 0 ≤ y) (hy1 : y ≤ 4) (hn0 : n0 ≤ 9223372036854775807) (hn2 : n2 ≤ 9223372036854775807)
 (hp : w.cell? ⟨bp, 0, none⟩ = some (.slice A0 n0 c0)) (h0 : w.cell? ⟨bm, 0, none⟩ = some (.int .i64 x)) (h1 : w.cell? ⟨bm, 1, none⟩ = some (.int .i64 y)) (h2 : w.cell? ⟨bm, 2, none⟩ = some (.slice A2 n2 c2)) :
 Calls Try.prog 66 #[.agg #[.int .i64 k, .int .i64 a], .pointer (some ⟨bp, 0, none⟩), .pointer (some ⟨bm, 0, none⟩)] w fun e w' => e = .returned (.bool (!opOkB n0 y n2 k a)) ∧ Below w.heap.size w w' := by
 have l1 : bp < w.heap.size := World.block_lt_of_cell? w _ hp
 have l2 : bm < w.heap.size := World.block_lt_of_cell? w _ h0
 have Y0 := Aside0.mk hy0
 have Y1 := Aside0.mk hy1
 have N0 := Aside0.mk hn0
 have N2 := Aside0.mk hn2
 clear hy0 hy1 hn0 hn2
 go_enter Try.func66, Try.ntmps66
 go_wp2_with (go_at_call 67; refine (opok_calls k a A0 n0 c0 x y A2 n2 c2 _ Y0.out Y1.out N0.out N2.out).mono ?_; rintro e w1 ⟨rfl, hb⟩; have HB := Aside0.mk (Qac (QaG (Below.refl _ _) _) hb); clear hb)
 go_ret
 exact ⟨rfl, HB.out⟩
theorem progok1_enters : ∀ args w, (callFunc 64 args).run Try.prog w = .ok (.enter 64 args) w := enters_of Try.func64 (by kernel_rfl) rfl
theorem progok11_enters : ∀ args w, (callFunc 66 args).run Try.prog w = .ok (.enter 66 args) w := enters_of Try.func66 (by kernel_rfl) rfl
set_option maxHeartbeats 2000000 in
set_option maxRecDepth 100000 in
theorem progok1_out (m : Qai) (bp : Nat) (A2 : Option Addr) (c2 : Nat) (w : World) (h : ¬ (0 ≤ m.f0 ∧ m.f0 ≤ 2 ∧ m.f0 ≤ m.f1 ∧ m.f1 ≤ 4 ∧ m.f2.length ≤ 14)) :
 Calls Try.prog 64 #[.agg #[.int .i64 m.f0, .int .i64 m.f1, .slice A2 m.f2.length c2], .pointer (some ⟨bp, 0, none⟩)] w fun e w' => e = .returned (.bool true) ∧ Below w.heap.size w w' := by
 obtain ⟨x, y, l⟩ := m
 simp only at h ⊢
 by_cases c1 : 0 ≤ x
 · have d1 := decide_eq_true c1
   by_cases c2' : x ≤ 2
   · have d2 := decide_eq_true c2'
     by_cases c3 : x ≤ y
     · have d3 := decide_eq_true c3
       by_cases c4 : y ≤ 4
       · have d4 := decide_eq_true c4
         have d5 : decide (14 < (l.length : Int)) = true := decide_eq_true (by omega)
         have d6 : decide (14 < l.length) = true := decide_eq_true (by omega)
         clear c1 c2' c3 c4 h
         go_enter Try.func64, Try.ntmps64
         go_wp2_with (go_at_call 62; refine (in_any _ _ _ _).mono ?_; rintro e w3 ⟨rfl, rfl⟩)
         go_ret
         exact ⟨rfl, QaG (Below.refl _ _) _⟩
       · have d4 := decide_eq_false c4
         clear c1 c2' c3 c4 h
         go_enter Try.func64, Try.ntmps64
         go_wp2_with (go_at_call 62; refine (in_any _ _ _ _).mono ?_; rintro e w3 ⟨rfl, rfl⟩)
         go_ret
         exact ⟨rfl, QaG (Below.refl _ _) _⟩
     · have d3 := decide_eq_false c3
       clear c1 c2' c3 h
       go_enter Try.func64, Try.ntmps64
       go_wp2_with (go_at_call 62; refine (in_any _ _ _ _).mono ?_; rintro e w3 ⟨rfl, rfl⟩)
       go_ret
       exact ⟨rfl, QaG (Below.refl _ _) _⟩
   · have d2 := decide_eq_false c2'
     clear c1 c2' h
     go_enter Try.func64, Try.ntmps64
     go_wp2_with (go_at_call 62; refine (in_any _ _ _ _).mono ?_; rintro e w3 ⟨rfl, rfl⟩)
     go_ret
     exact ⟨rfl, QaG (Below.refl _ _) _⟩
 · have d1 := decide_eq_false c1
   clear c1 h
   go_enter Try.func64, Try.ntmps64
   go_wp2_with (go_at_call 62; refine (in_any _ _ _ _).mono ?_; rintro e w3 ⟨rfl, rfl⟩)
   go_ret
   exact ⟨rfl, QaG (Below.refl _ _) _⟩
set_option maxHeartbeats 2000000 in
set_option maxRecDepth 100000 in
theorem progok1_in (x y : Int) (l : List QaW) (bp : Nat) (A0 : Option Addr) (n0 c0 : Nat) (A2 : Option Addr) (c2 : Nat) (w : World) (h1 : 0 ≤ x) (h2 : x ≤ 2) (h3 : x ≤ y) (h4 : y ≤ 4) (h5 : l.length ≤ 14) (hn0 : n0 ≤ 9223372036854775807)
 (hp : w.cell? ⟨bp, 0, none⟩ = some (.slice A0 n0 c0)) (hr : Kd.C Qbk w A2 l.length l) :
 Calls Try.prog 64 #[.agg #[.int .i64 x, .int .i64 y, .slice A2 l.length c2], .pointer (some ⟨bp, 0, none⟩)] w fun e w' => e = .returned (.bool (l.any (fun op => !opOkB n0 y l.length op.f0 op.f1))) ∧ Below w.heap.size w w' := by
 have d1 := decide_eq_true h1
 have d2 := decide_eq_true h2
 have d3 := decide_eq_true h3
 have d4 := decide_eq_true h4
 have d5 : decide (14 < (l.length : Int)) = false := decide_eq_false (by omega)
 have d6 : decide (14 < l.length) = false := decide_eq_false (by omega)
 have L1 := Aside0.mk (World.block_lt_of_cell? w _ hp : bp < w.heap.size)
 have HP := Aside0.mk hp
 have HR := Aside0.mk hr
 have Y0 := Aside0.mk (show 0 ≤ y by omega)
 have Y1 := Aside0.mk h4
 have N0 := Aside0.mk hn0
 have N2 := Aside0.mk (show l.length ≤ 9223372036854775807 by omega)
 have BK := Aside0.mk (QcP w (.cells #[.int .i64 x, .int .i64 y, .slice A2 l.length c2] 34))
 clear h1 h2 h3 h4 h5 hp hr hn0
 go_enter Try.func64, Try.ntmps64
 go_wp2_with (first | (go_at_call 62; refine (in_any _ _ _ _).mono ?_; rintro e w3 ⟨rfl, rfl⟩) | (go_at_call 65; refine (contains_impl_Op 66 _ progok11_enters (fun op => !opOkB n0 y l.length op.f0 op.f1) _ _ _ _ ?hc ?hq).mono ?_; (case hc => exact Kd.C_alloc HR.out _); (case hq => intro W hW o cs ho hK; obtain rfl := k_impl_Op_open hK; exact (progok11 o.f0 o.f1 bp w.heap.size A0 n0 c0 x y A2 l.length c2 W Y0.out Y1.out N0.out N2.out (Qbx (Qac (QaG (Below.refl _ _) _) hW) HP.out) (Qab ((hW.block _ (Qb1 BK.out)).trans BK.out) 0) (Qab ((hW.block _ (Qb1 BK.out)).trans BK.out) 1) (Qab ((hW.block _ (Qb1 BK.out)).trans BK.out) 2)).mono fun e w' ⟨he, hb⟩ => ⟨he, Qce hW hW.size hb⟩); rintro e w1 ⟨rfl, hb⟩; have HB := Aside0.mk (Qac (QaG (Below.refl _ _) _) hb : Below w.heap.size w w1); clear hb))
 go_ret
 exact ⟨rfl, HB.out⟩
theorem progok1_calls (m : Qai) (bp : Nat) (A0 : Option Addr) (n0 c0 : Nat) (cs : List Value) (w : World) (hn0 : n0 ≤ 9223372036854775807) (hp : w.cell? ⟨bp, 0, none⟩ = some (.slice A0 n0 c0)) (hK : (QaI).K w m cs) :
 Calls Try.prog 64 (#[.agg cs.toArray] ++ #[.pointer (some ⟨bp, 0, none⟩)]) w fun e w' => e = .returned (.bool (QbT n0 m)) ∧ Below w.heap.size w w' := by
 obtain ⟨A2, c2, rfl, l2, g2⟩ := QcE hK
 unfold QbT
 by_cases h : 0 ≤ m.f0 ∧ m.f0 ≤ 2 ∧ m.f0 ≤ m.f1 ∧ m.f1 ≤ 4 ∧ m.f2.length ≤ 14
 · rw [if_pos h]
   exact progok1_in m.f0 m.f1 m.f2 bp A0 n0 c0 A2 c2 w h.1 h.2.1 h.2.2.1 h.2.2.2.1 h.2.2.2.2 hn0 hp g2
 · rw [if_neg h]
   exact progok1_out m bp A2 c2 w h
end Go.Proofs.Ytabcijheemjplaa.G
namespace Go.Proofs.Ytabcijheemjplaa.G
open Go.RowKit Go.Proofs.YtabcijheemjplaaW.PrintWords Go.Proofs.YtabcijheemjplaaW.PrintLast Go.Proofs.YtabcijheemjplaaW.PrintMore
attribute [local go_sem] Qa3 Qa4 Qbc Qbd QaP QaQ Qa5 Qa6
set_option linter.unusedVariables false
set_option linter.unusedSimpArgs false
def QbD.f (l0_0 : List (Qai)) : Option Bool := some (progOkB l0_0)
set_option maxHeartbeats 2000000 in
set_option maxRecDepth 100000 in
theorem ProgOk_few (A0 : Option Addr) (c0 : Nat) (l : List Qai) (w : World) (h : ¬ (1 ≤ l.length ∧ l.length ≤ 4)) :
 Calls Try.prog 24 #[.agg #[.slice A0 l.length c0]] w fun e w' => e = .returned (.bool false) ∧ Below w.heap.size w w' := by
 have h : decide (1 ≤ (l.length : Int)) = false ∨ (decide (1 ≤ (l.length : Int)) = true ∧ decide ((l.length : Int) ≤ 4) = false) := by
  by_cases h1 : 1 ≤ l.length
  · exact .inr ⟨by simp; omega, by simp; omega⟩
  · exact .inl (by simp; omega)
 rcases h with h1 | ⟨h1, h2⟩
 · go_enter Try.func24, Try.ntmps24
   go_wp2_with (go_at_call 62; refine (in_any _ _ _ _).mono ?_; rintro e w3 ⟨rfl, rfl⟩)
   go_ret
   exact ⟨rfl, QaG (Below.refl _ _) _⟩
 · go_enter Try.func24, Try.ntmps24
   go_wp2_with (go_at_call 62; refine (in_any _ _ _ _).mono ?_; rintro e w3 ⟨rfl, rfl⟩)
   go_ret
   exact ⟨rfl, QaG (Below.refl _ _) _⟩
set_option maxHeartbeats 2000000 in
set_option maxRecDepth 100000 in
theorem ProgOk_args (A0 : Option Addr) (c0 : Nat) (l : List Qai) (w : World) (h1 : 1 ≤ l.length) (h2 : l.length ≤ 4) (hr : Kd.C QaI w A0 l.length l) (h3 : ¬ (Qae l 0).f0 = 0) :
 Calls Try.prog 24 #[.agg #[.slice A0 l.length c0]] w fun e w' => e = .returned (.bool false) ∧ Below w.heap.size w w' := by
 obtain ⟨ad, A2, c2, rfl, hx0, -, -, -, -⟩ := Qbh hr 0 (by omega) (by omega)
 have d1 : decide (1 ≤ (l.length : Int)) = true := decide_eq_true (by omega)
 have d2 : decide ((l.length : Int) ≤ 4) = true := decide_eq_true (by omega)
 have d0 : decide (0 < l.length) = true := decide_eq_true (by omega)
 have i1 : (0 : Int) < (l.length : Int) := by omega
 have i2 : 0 < l.length := by omega
 have d3 : ((Qae l 0).f0 != 0) = true := bne_iff_ne.mpr h3
 have hx := Qbx (QaG (Below.refl _ _) (.cells #[.slice (some ad) l.length c0] 25)) hx0
 simp only [Int.toNat_zero, Nat.zero_mul] at hx
 have e0 : ad.add 0 = ad := by unfold Addr.add; simp
 rw [e0] at hx
 clear h1 h2 h3 hx0 hr e0 d0
 go_enter Try.func24, Try.ntmps24
 go_wp2_with (go_at_call 62; refine (in_any _ _ _ _).mono ?_; rintro e w3 ⟨rfl, rfl⟩)
 go_ret
 exact ⟨rfl, QaG (Below.refl _ _) _⟩
set_option maxHeartbeats 2000000 in
set_option maxRecDepth 100000 in
theorem ProgOk_all (A0 : Option Addr) (c0 : Nat) (l : List Qai) (w : World) (h1 : 1 ≤ l.length) (h2 : l.length ≤ 4) (hr : Kd.C QaI w A0 l.length l) (h3 : (Qae l 0).f0 = 0) :
 Calls Try.prog 24 #[.agg #[.slice A0 l.length c0]] w fun e w' => e = .returned (.bool (!(l.any (QbT l.length)))) ∧ Below w.heap.size w w' := by
 have HR := Aside0.mk hr
 obtain ⟨ad, A2, c2, rfl, hx0, -, -, -, -⟩ := Qbh hr 0 (by omega) (by omega)
 have d1 : decide (1 ≤ (l.length : Int)) = true := decide_eq_true (by omega)
 have d2 : decide ((l.length : Int) ≤ 4) = true := decide_eq_true (by omega)
 have i1 : (0 : Int) < (l.length : Int) := by omega
 have i2 : 0 < l.length := by omega
 have d3 : ((Qae l 0).f0 != 0) = false := bne_eq_false_iff_eq.mpr h3
 have hx := Qbx (QaG (Below.refl _ _) (.cells #[.slice (some ad) l.length c0] 25)) hx0
 simp only [Int.toNat_zero, Nat.zero_mul] at hx
 have e0 : ad.add 0 = ad := by unfold Addr.add; simp
 rw [e0] at hx
 have BK := Aside0.mk (QcP w (.cells #[.slice (some ad) l.length c0] 25))
 have N0 := Aside0.mk (show l.length ≤ 9223372036854775807 by omega)
 clear h1 h2 h3 hx0 hr e0
 go_enter Try.func24, Try.ntmps24
 go_wp2_with (first | (go_at_call 62; refine (in_any _ _ _ _).mono ?_; rintro e w3 ⟨rfl, rfl⟩) | (go_at_call 63; refine (contains_impl_Method 64 _ progok1_enters (QbT l.length) _ _ _ _ ?hc ?hq).mono ?_; (case hc => exact Kd.C_alloc HR.out _); (case hq => intro W hW m cs hm hK; exact (progok1_calls m w.heap.size (some ad) l.length c0 cs W N0.out (Qab ((hW.block _ (Qb1 BK.out)).trans BK.out) 0) hK).mono fun e w' ⟨he, hb⟩ => ⟨he, Qce hW hW.size hb⟩); rintro e w1 ⟨rfl, hb⟩; have HB := Aside0.mk (Qac (QaG (Below.refl _ _) _) hb : Below w.heap.size w w1); clear hb))
 go_ret
 exact ⟨rfl, HB.out⟩
theorem QbD.calls (A0_0 : Option Addr) (c0_0 : Nat) (l0_0 : List (Qai)) (r : Bool) (w : World) (hr0_0 : Kd.C QaI w A0_0 l0_0.length l0_0) (hc0_0 : l0_0.length ≤ c0_0) (h : QbD.f l0_0 = some r) :
 Calls Try.prog 24 #[.agg #[.slice A0_0 l0_0.length c0_0]] w fun e w' => e = .returned (.bool r) ∧ Below w.heap.size w w' := by
 unfold QbD.f progOkB at h
 obtain rfl := Option.some.inj h
 by_cases h1 : 1 ≤ l0_0.length ∧ l0_0.length ≤ 4
 · by_cases h3 : (Qae l0_0 0).f0 = 0
   · rw [if_pos ⟨h1.1, h1.2, h3⟩]
     exact ProgOk_all A0_0 c0_0 l0_0 w h1.1 h1.2 hr0_0 h3
   · rw [if_neg (fun h => h3 h.2.2)]
     exact ProgOk_args A0_0 c0_0 l0_0 w h1.1 h1.2 hr0_0 h3
 · rw [if_neg (fun h => h1 ⟨h.1, h.2.1⟩)]
   exact ProgOk_few A0_0 c0_0 l0_0 w h1
end Go.Proofs.Ytabcijheemjplaa.G
namespace Go.Proofs.Ytabcijheemjplaa.G
open Go.RowKit Go.Proofs.YtabcijheemjplaaW.PrintWords Go.Proofs.YtabcijheemjplaaW.PrintLast Go.Proofs.YtabcijheemjplaaW.PrintMore
attribute [local go_sem] Qa3 Qa4 Qbc Qbd QaP QaQ Qa5 Qa6
set_option linter.unusedVariables false
set_option linter.unusedSimpArgs false
def toldB (n : Nat) (born : Int) (said : List Qao) (code : Int) (ended : Bool) : Bool :=
 decide (1 ≤ born ∧ born ≤ 30) && ((said.all fun v => Qb0 v n) && (decide (0 ≤ code ∧ code ≤ 3) && ((code == 1) == ended)))
theorem told1_enters : ∀ args w, (callFunc 117 args).run Try.prog w = .ok (.enter 117 args) w := enters_of Try.func117 (by kernel_rfl) rfl
set_option maxHeartbeats 2000000 in
theorem told1_calls (v : Qao) (b : Nat) (A : Option Addr) (n c : Nat) (hn : n ≤ 9223372036854775807) (w : World) (hx : w.cell? ⟨b, 0, none⟩ = some (.slice A n c)) :
 Calls Try.prog 117 (#[.agg #[.int .i64 v.f0, .int .i64 v.f1]] ++ #[.pointer (some ⟨b, 0, none⟩)]) w fun e w' => e = .returned (.bool (!Qb0 v n)) ∧ Below w.heap.size w w' := by
 have hlt : b < w.heap.size := World.block_lt_of_cell? w _ hx
 have HV := Aside0.mk (Qcl v n)
 generalize Qb0 v n = r at *
 go_enter Try.func117, Try.ntmps117
 go_wp2_with (go_at_call 118; refine (QbR.calls v.f0 v.f1 n r _ HV.out).mono ?_; rintro e w1 ⟨rfl, hb⟩; have HB := Aside0.mk (Qac (QaG (Below.refl _ _) _) hb : Below w.heap.size w w1); clear hb)
 go_ret
 exact ⟨rfl, HB.out⟩
theorem in_is (n lo hi : Int) (r : Bool) (h : decide (lo ≤ n ∧ n ≤ hi) = r) (w : World) : Calls Try.prog 62 #[.int .i64 n, .int .i64 lo, .int .i64 hi] w fun e w' => e = .returned (.bool r) ∧ w = w' := by
 rw [← h]
 exact in_any n lo hi w
theorem told_all (A0 : Option Addr) (n0 c0 : Nat) (l2 : List Qao) (A2 : Option Addr) (c2 : Nat) (b : Bool) (hb : (l2.all fun v => Qb0 v n0) = b) (hn : n0 ≤ 9223372036854775807) (w W : World) (hC : Kd.C QaN W A2 l2.length l2) (hx : W.heap[w.heap.size]? = some (.cells #[.slice A0 n0 c0] 25 (0, 0))) (hw : Below w.heap.size w W) :
 Calls Try.prog 119 #[.slice A2 l2.length c2, .func (.func 117) #[] #[.pointer (some ⟨w.heap.size, 0, none⟩)]] W fun e w' => e = .returned (.bool (!b)) ∧ Below w.heap.size w w' := by
 have := QcN 117 #[.pointer (some ⟨w.heap.size, 0, none⟩)] told1_enters (fun v => !Qb0 v n0) A2 c2 l2 W hC (fun W' hW v cs hv hK => by
  obtain rfl := QcA hK
  exact (told1_calls v w.heap.size A0 n0 c0 hn W' (Qab ((hW.block _ (Qb1 hx)).trans hx) 0)).mono fun e w' ⟨he, hb⟩ => ⟨he, Qce hW hW.size hb⟩)
 rw [any_not_all, hb] at this
 exact this.mono fun e w' ⟨he, hB⟩ => ⟨he, Qce hw hw.size hB⟩
def QbJ.f (l0_0 : List (Qai)) (a1 : Int) (l2 : List (Qao)) (a3 : Int) (a4 : Bool) : Option Bool := some (toldB l0_0.length a1 l2 a3 a4)
set_option maxHeartbeats 4000000 in
set_option maxRecDepth 100000 in
theorem QbJ.calls (A0_0 : Option Addr) (c0_0 : Nat) (l0_0 : List (Qai)) (a1 : Int) (A2 : Option Addr) (c2 : Nat) (l2 : List (Qao)) (a3 : Int) (a4 : Bool) (r : Bool) (w : World) (hr0_0 : Kd.C QaI w A0_0 l0_0.length l0_0) (hc0_0 : l0_0.length ≤ c0_0) (hr2 : Kd.C QaN w A2 l2.length l2) (hc2 : l2.length ≤ c2) (h : QbJ.f l0_0 a1 l2 a3 a4 = some r) :
 Calls Try.prog 81 #[.agg #[.slice A0_0 l0_0.length c0_0], .int .i64 a1, .slice A2 l2.length c2, .int .i64 a3, .bool a4] w fun e w' => e = .returned (.bool r) ∧ Below w.heap.size w w' := by
 unfold QbJ.f toldB at h
 obtain rfl := Option.some.inj h
 clear h
 have HR := Aside0.mk hr2
 have HN := Aside0.mk (Kd.C_max hr0_0)
 have BK := Aside0.mk (QcP w (.cells #[.slice A0_0 l0_0.length c0_0] 25))
 clear hr2 hr0_0
 obtain ⟨b1, h1⟩ : ∃ b, decide (1 ≤ a1 ∧ a1 ≤ 30) = b := ⟨_, rfl⟩
 obtain ⟨b2, h2⟩ : ∃ b, (l2.all fun v => Qb0 v l0_0.length) = b := ⟨_, rfl⟩
 obtain ⟨b3, h3⟩ : ∃ b, decide (0 ≤ a3 ∧ a3 ≤ 3) = b := ⟨_, rfl⟩
 rw [h1, h2, h3]
 have H1 := Aside0.mk h1
 have H2 := Aside0.mk h2
 have H3 := Aside0.mk h3
 have tok1 : True := trivial
 clear h1 h2 h3
 cases b1 <;> cases b2 <;> cases b3
 all_goals
  go_enter Try.func81, Try.ntmps81
  go_wp2_with (first | (go_at_call 62; have _t := tok1; clear _t tok1; refine (in_is _ _ _ _ H1.out _).mono ?_; rintro e w3 ⟨rfl, rfl⟩) | (go_at_call 62; refine (in_is _ _ _ _ H3.out _).mono ?_; rintro e w3 ⟨rfl, rfl⟩) | (go_at_call 119; refine (told_all A0_0 l0_0.length c0_0 l2 A2 c2 _ H2.out HN.out w _ (Kd.C_alloc HR.out _) BK.out (QaG (Below.refl _ _) _)).mono ?_; rintro e w1 ⟨rfl, hb⟩; have HB := Aside0.mk hb; clear hb))
  go_ret
  first | exact ⟨rfl, HB.out⟩ | exact ⟨rfl, QaG (Below.refl _ _) _⟩ | exact ⟨by simp, HB.out⟩ | exact ⟨by simp, QaG (Below.refl _ _) _⟩
end Go.Proofs.Ytabcijheemjplaa.G
namespace Go.Proofs.Ytabcijheemjplaa.G
open Go.RowKit Go.Proofs.YtabcijheemjplaaW.PrintWords Go.Proofs.YtabcijheemjplaaW.PrintLast Go.Proofs.YtabcijheemjplaaW.PrintMore
attribute [local go_sem] Qa3 Qa4 Qbc Qbd QaP QaQ Qa5 Qa6
set_option linter.unusedVariables false
set_option linter.unusedSimpArgs false
mutual
def Qak.j0 : Nat → Bool → List (Qai) → List (Qas) → Int → Int → List (Qao) → Int → Option (Bool)
 | 0, _, _, _, _, _, _, _ => none
 | k + 1, x44, x102000, x103000, x103001, x103002, x103003, x103004 => if x44 = true then (some false) else (Qak.l0 k 0 x103000 (x103000.length : Int) 0 x102000 x103000 x103001 x103002 x103003 x103004)
def Qak.l0 : Nat → Int → List (Qas) → Int → Int → List (Qai) → List (Qas) → Int → Int → List (Qao) → Int → Option (Bool)
 | 0, _, _, _, _, _, _, _, _, _, _ => none
 | k + 1, x5, x46, x47, x48, x102000, x103000, x103001, x103002, x103003, x103004 => if x48 < x47 then (if 0 ≤ x48 then (if x48 < (x46.length : Int) then ((Qan.f k ((Qaa x46 x48).f0) ((Qaa x46 x48).f1) ((Qaa x46 x48).f2) ((Qaa x46 x48).f3) ((Qaa x46 x48).f4) ((Qaa x46 x48).f5) x102000 (x103000.length : Int)).bind fun t108 => (if t108 = true then (if ((Qaa x46 x48).f5 = true) then (Qak.l0 k x5 x46 x47 (wrap64 (x48 + 1)) x102000 x103000 x103001 x103002 x103003 x103004) else (Qak.l0 k (wrap64 (x5 + 1)) x46 x47 (wrap64 (x48 + 1)) x102000 x103000 x103001 x103002 x103003 x103004)) else (some false))) else (none)) else (none)) else (Qak.l1 k x5 x103001 x103000 x103001 x103002 x103003 x103004)
def Qak.l1 : Nat → Int → Int → List (Qas) → Int → Int → List (Qao) → Int → Option (Bool)
 | 0, _, _, _, _, _, _, _ => none
 | k + 1, x5, x8, x103000, x103001, x103002, x103003, x103004 => if x8 ≥ 0 then (if 0 ≤ x8 then (if x8 < (x103000.length : Int) then (if (wrap64 (x5 - 1)) < 0 then (some false) else (if (Qaa x103000 x8).f5 = true then (some false) else (if x8 = x103001 then (Qak.l1 k (wrap64 (x5 - 1)) ((Qaa x103000 x8).f4) x103000 x103001 x103002 x103003 x103004) else (if (((Qaa x103000 x8).f3).length : Int) = 6 then (some false) else (Qak.l1 k (wrap64 (x5 - 1)) ((Qaa x103000 x8).f4) x103000 x103001 x103002 x103003 x103004))))) else (none)) else (none)) else (some (x5 == 0))
end
def Qak.f (k : Nat) (l0_0 : List (Qai)) (l1_0 : List (Qas)) (a1_1 : Int) (a1_2 : Int) (l1_3 : List (Qao)) (a1_4 : Int) : Option (Bool) := (QbD.f l0_0).bind fun t103 => (if t103 = true then ((Qbm.f a1_1 (-1) (wrap64 ((l1_0.length : Int) - 1))).bind fun t104 => (if t104 = true then ((QbJ.f l0_0 a1_2 l1_3 a1_4 (a1_1 == (-1))).bind fun t105 => (if t105 = true then (Qak.j0 k (decide ((l1_0.length : Int) > a1_2)) l0_0 l1_0 a1_1 a1_2 l1_3 a1_4) else (Qak.j0 k true l0_0 l1_0 a1_1 a1_2 l1_3 a1_4))) else (Qak.j0 k true l0_0 l1_0 a1_1 a1_2 l1_3 a1_4))) else (Qak.j0 k true l0_0 l1_0 a1_1 a1_2 l1_3 a1_4))
theorem Qak.mono_l : ∀ k, (∀ y0 y1 y2 y3 y4 y5 y6, LeO (Qak.j0 k y0 y1 y2 y3 y4 y5 y6) (Qak.j0 (k + 1) y0 y1 y2 y3 y4 y5 y6)) ∧ (∀ y0 y1 y2 y3 y4 y5 y6 y7 y8 y9, LeO (Qak.l0 k y0 y1 y2 y3 y4 y5 y6 y7 y8 y9) (Qak.l0 (k + 1) y0 y1 y2 y3 y4 y5 y6 y7 y8 y9)) ∧ (∀ y0 y1 y2 y3 y4 y5 y6, LeO (Qak.l1 k y0 y1 y2 y3 y4 y5 y6) (Qak.l1 (k + 1) y0 y1 y2 y3 y4 y5 y6))
 | 0 => ⟨fun _ _ _ _ _ _ _ r h => by simp [Qak.j0] at h, fun _ _ _ _ _ _ _ _ _ _ r h => by simp [Qak.l0] at h, fun _ _ _ _ _ _ _ r h => by simp [Qak.l1] at h⟩
 | k + 1 => by
   obtain ⟨ih0, ih1, ih2⟩ := Qak.mono_l k
   refine ⟨?_, ?_, ?_⟩
   · intro y0 y1 y2 y3 y4 y5 y6
     unfold Qak.j0
     repeat' first
     | (with_reducible exact ih0 _ _ _ _ _ _ _)
     | (with_reducible exact ih1 _ _ _ _ _ _ _ _ _ _)
     | (with_reducible exact ih2 _ _ _ _ _ _ _)
     | (with_reducible exact Qan.mono _ _ _ _ _ _ _ _ _)
     | (with_reducible exact LeO.refl _)
     | (with_reducible exact LeO.none _)
     | (with_reducible refine LeO.ite ?_ ?_)
     | (with_reducible refine LeO.bind ?_ (fun _ => ?_))
     | exact ih0 _ _ _ _ _ _ _
     | exact ih1 _ _ _ _ _ _ _ _ _ _
     | exact ih2 _ _ _ _ _ _ _
     | exact Qan.mono _ _ _ _ _ _ _ _ _
     | exact LeO.none _
     | refine LeO.ite ?_ ?_
     | refine LeO.bind ?_ (fun _ => ?_)
   · intro y0 y1 y2 y3 y4 y5 y6 y7 y8 y9
     unfold Qak.l0
     repeat' first
     | (with_reducible exact ih0 _ _ _ _ _ _ _)
     | (with_reducible exact ih1 _ _ _ _ _ _ _ _ _ _)
     | (with_reducible exact ih2 _ _ _ _ _ _ _)
     | (with_reducible exact Qan.mono _ _ _ _ _ _ _ _ _)
     | (with_reducible exact LeO.refl _)
     | (with_reducible exact LeO.none _)
     | (with_reducible refine LeO.ite ?_ ?_)
     | (with_reducible refine LeO.bind ?_ (fun _ => ?_))
     | exact ih0 _ _ _ _ _ _ _
     | exact ih1 _ _ _ _ _ _ _ _ _ _
     | exact ih2 _ _ _ _ _ _ _
     | exact Qan.mono _ _ _ _ _ _ _ _ _
     | exact LeO.none _
     | refine LeO.ite ?_ ?_
     | refine LeO.bind ?_ (fun _ => ?_)
   · intro y0 y1 y2 y3 y4 y5 y6
     unfold Qak.l1
     repeat' first
     | (with_reducible exact ih0 _ _ _ _ _ _ _)
     | (with_reducible exact ih1 _ _ _ _ _ _ _ _ _ _)
     | (with_reducible exact ih2 _ _ _ _ _ _ _)
     | (with_reducible exact Qan.mono _ _ _ _ _ _ _ _ _)
     | (with_reducible exact LeO.refl _)
     | (with_reducible exact LeO.none _)
     | (with_reducible refine LeO.ite ?_ ?_)
     | (with_reducible refine LeO.bind ?_ (fun _ => ?_))
     | exact ih0 _ _ _ _ _ _ _
     | exact ih1 _ _ _ _ _ _ _ _ _ _
     | exact ih2 _ _ _ _ _ _ _
     | exact Qan.mono _ _ _ _ _ _ _ _ _
     | exact LeO.none _
     | refine LeO.ite ?_ ?_
     | refine LeO.bind ?_ (fun _ => ?_)
theorem Qak.mono : ∀ a0 a1 a2 a3 a4 a5 k, LeO (Qak.f k a0 a1 a2 a3 a4 a5) (Qak.f (k + 1) a0 a1 a2 a3 a4 a5) := by
 intro a0 a1 a2 a3 a4 a5 k
 obtain ⟨ih0, ih1, ih2⟩ := Qak.mono_l k
 unfold Qak.f
 repeat' first
  | (with_reducible exact ih0 _ _ _ _ _ _ _)
  | (with_reducible exact ih1 _ _ _ _ _ _ _ _ _ _)
  | (with_reducible exact ih2 _ _ _ _ _ _ _)
  | (with_reducible exact Qan.mono _ _ _ _ _ _ _ _ _)
  | (with_reducible exact LeO.refl _)
  | (with_reducible exact LeO.none _)
  | (with_reducible refine LeO.ite ?_ ?_)
  | (with_reducible refine LeO.bind ?_ (fun _ => ?_))
  | exact ih0 _ _ _ _ _ _ _
  | exact ih1 _ _ _ _ _ _ _ _ _ _
  | exact ih2 _ _ _ _ _ _ _
  | exact Qan.mono _ _ _ _ _ _ _ _ _
  | exact LeO.none _
  | refine LeO.ite ?_ ?_
  | refine LeO.bind ?_ (fun _ => ?_)
set_option maxHeartbeats 8000000 in
set_option maxRecDepth 100000 in
theorem Qak.calls (k : Nat) (A0_0 : Option Addr) (c0_0 : Nat) (l0_0 : List (Qai)) (A1_0 : Option Addr) (c1_0 : Nat) (l1_0 : List (Qas)) (a1_1 : Int) (a1_2 : Int) (A1_3 : Option Addr) (c1_3 : Nat) (l1_3 : List (Qao)) (a1_4 : Int) (r : Bool) (w : World) (hr0_0 : Kd.C QaI w A0_0 l0_0.length l0_0) (hc0_0 : l0_0.length ≤ c0_0) (hr1_0 : Kd.C Qa_ w A1_0 l1_0.length l1_0) (hc1_0 : l1_0.length ≤ c1_0) (hr1_3 : Kd.C QaN w A1_3 l1_3.length l1_3) (hc1_3 : l1_3.length ≤ c1_3) (h : Qak.f k l0_0 l1_0 a1_1 a1_2 l1_3 a1_4 = some r) :
 Calls Try.prog 37 #[.agg #[.slice A0_0 l0_0.length c0_0], .agg #[.slice A1_0 l1_0.length c1_0, .int .i64 a1_1, .int .i64 a1_2, .slice A1_3 l1_3.length c1_3, .int .i64 a1_4]] w fun e w' => e = .returned (.bool r) ∧ Below w.heap.size w w' := by
 have hu25 := Try.underlying25
 have hu46 := Try.underlying46
 have hu67 := Try.underlying67
 have HR0_0 := Aside0.mk hr0_0
 have HC0_0 := Aside0.mk hc0_0
 clear hr0_0 hc0_0
 have HR1_0 := Aside0.mk hr1_0
 have HC1_0 := Aside0.mk hc1_0
 clear hr1_0 hc1_0
 have HR1_3 := Aside0.mk hr1_3
 have HC1_3 := Aside0.mk hc1_3
 clear hr1_3 hc1_3
 have HB := Aside0.mk (Below.refl w.heap.size w)
 have H : ((QbD.f l0_0).bind fun t103 => (if t103 = true then ((Qbm.f a1_1 (-1) (wrap64 ((l1_0.length : Int) - 1))).bind fun t104 => (if t104 = true then ((QbJ.f l0_0 a1_2 l1_3 a1_4 (a1_1 == (-1))).bind fun t105 => (if t105 = true then (Qak.j0 k (decide ((l1_0.length : Int) > a1_2)) l0_0 l1_0 a1_1 a1_2 l1_3 a1_4) else (Qak.j0 k true l0_0 l1_0 a1_1 a1_2 l1_3 a1_4))) else (Qak.j0 k true l0_0 l1_0 a1_1 a1_2 l1_3 a1_4))) else (Qak.j0 k true l0_0 l1_0 a1_1 a1_2 l1_3 a1_4))) = some r := h
 clear h
 have HC3 := Aside0.mk H
 clear H
 go_enter Try.func37, Try.ntmps37
 go_upto_region 1 with (first | ((with_reducible refine Qaq (N := 2) rfl ?_); (try (refine Qbg (by rfl) ?_; dsimp only)); refine Qam ?hg (N := 2) ?hd (cs := #[.slice A0_0 l0_0.length c0_0]) (t := 25) ?hr ?_; (case hd => rfl); (case hg => rfl); (case hr => first | (go_simp; done) | (go_simp; rfl)); intro gb101 hg w4 hbox hb; have n0_ := Aside0.mk (Qac (bw_) hb); have n1_ := Aside0.mk (hbox); have n2_ := Aside0.mk ((gs_ hg bw_ : w.heap.size ≤ gb101)); have n3_ := Aside0.mk ((gs_ hg bw_ : w.heap.size ≤ gb101)); clear HB; have HB := n0_; have BK101 := n1_; have GW101 := n2_; have GE101 := n3_; clear n0_ n1_ n2_ n3_; clear hb hbox hg) | ((with_reducible refine Qaq (N := 3) rfl ?_); (try (refine Qbg (by rfl) ?_; dsimp only)); refine Qam ?hg (N := 3) ?hd (cs := #[.slice A1_0 l1_0.length c1_0, .int .i64 a1_1, .int .i64 a1_2, .slice A1_3 l1_3.length c1_3, .int .i64 a1_4]) (t := 46) ?hr ?_; (case hd => rfl); (case hg => rfl); (case hr => first | (go_simp; done) | (go_simp; rfl)); intro gb102 hg w5 hbox hb; have n0_ := Aside0.mk (bb_ BK101 hb); have n1_ := Aside0.mk (Qac (bw_) hb); have n2_ := Aside0.mk (hbox); have n3_ := Aside0.mk ((gs_ hg bw_ : w.heap.size ≤ gb102)); have n4_ := Aside0.mk ((gs_ hg bw_ : w.heap.size ≤ gb102)); have n5_ := Aside0.mk ((nl_ hg BK101 : gb101 ≠ gb102)); have n6_ := Aside0.mk ((ng_ hg BK101 : gb102 ≠ gb101)); clear BK101; clear HB; have BK101 := n0_; have HB := n1_; have BK102 := n2_; have GW102 := n3_; have GE102 := n4_; have NB101_102 := n5_; have NB102_101 := n6_; clear n0_ n1_ n2_ n3_ n4_ n5_ n6_; clear hb hbox hg))
 (try simp only [Act.put, List.setIfInBounds_toArray, List.set_cons_zero, List.set_cons_succ])
 go_cut [44] (fun v44 wc => ∃ (kq : Nat) (x44_2 : Bool), v44 = .bool x44_2 ∧ Aside0 (Qak.j0 kq x44_2 l0_0 l1_0 a1_1 a1_2 l1_3 a1_4 = some r) ∧ Aside0 (kq ≤ k) ∧ Aside0 (wc.heap[gb101]? = some (.cells #[(.slice A0_0 l0_0.length c0_0)] 25 (0, 0))) ∧ Aside0 (wc.heap[gb102]? = some (.cells #[(.slice A1_0 l1_0.length c1_0), .int .i64 a1_1, .int .i64 a1_2, (.slice A1_3 l1_3.length c1_3), .int .i64 a1_4] 46 (0, 0))) ∧ Aside0 (Below w.heap.size w wc))
 case first =>
  have H := HC3.out
  clear HC3
  replace H := Option.bind_eq_some_iff.mp H
  obtain ⟨t103, A60, H⟩ := H
  replace H : (if t103 = true then ((Qbm.f a1_1 (-1) (wrap64 ((l1_0.length : Int) - 1))).bind fun t104 => (if t104 = true then ((QbJ.f l0_0 a1_2 l1_3 a1_4 (a1_1 == (-1))).bind fun t105 => (if t105 = true then (Qak.j0 k (decide ((l1_0.length : Int) > a1_2)) l0_0 l1_0 a1_1 a1_2 l1_3 a1_4) else (Qak.j0 k true l0_0 l1_0 a1_1 a1_2 l1_3 a1_4))) else (Qak.j0 k true l0_0 l1_0 a1_1 a1_2 l1_3 a1_4))) else (Qak.j0 k true l0_0 l1_0 a1_1 a1_2 l1_3 a1_4)) = some r := H
  have A6 := Aside0.mk A60
  clear A60
  by_cases c7 : t103 = true
  · subst c7
    have H1 : ((Qbm.f a1_1 (-1) (wrap64 ((l1_0.length : Int) - 1))).bind fun t104 => (if t104 = true then ((QbJ.f l0_0 a1_2 l1_3 a1_4 (a1_1 == (-1))).bind fun t105 => (if t105 = true then (Qak.j0 k (decide ((l1_0.length : Int) > a1_2)) l0_0 l1_0 a1_1 a1_2 l1_3 a1_4) else (Qak.j0 k true l0_0 l1_0 a1_1 a1_2 l1_3 a1_4))) else (Qak.j0 k true l0_0 l1_0 a1_1 a1_2 l1_3 a1_4))) = some r := by rw [if_pos rfl] at H; exact H
    clear H
    have H := H1
    clear H1
    replace H := Option.bind_eq_some_iff.mp H
    obtain ⟨t104, A80, H⟩ := H
    replace H : (if t104 = true then ((QbJ.f l0_0 a1_2 l1_3 a1_4 (a1_1 == (-1))).bind fun t105 => (if t105 = true then (Qak.j0 k (decide ((l1_0.length : Int) > a1_2)) l0_0 l1_0 a1_1 a1_2 l1_3 a1_4) else (Qak.j0 k true l0_0 l1_0 a1_1 a1_2 l1_3 a1_4))) else (Qak.j0 k true l0_0 l1_0 a1_1 a1_2 l1_3 a1_4)) = some r := H
    have A8 := Aside0.mk A80
    clear A80
    by_cases c9 : t104 = true
    · subst c9
      have H1 : ((QbJ.f l0_0 a1_2 l1_3 a1_4 (a1_1 == (-1))).bind fun t105 => (if t105 = true then (Qak.j0 k (decide ((l1_0.length : Int) > a1_2)) l0_0 l1_0 a1_1 a1_2 l1_3 a1_4) else (Qak.j0 k true l0_0 l1_0 a1_1 a1_2 l1_3 a1_4))) = some r := by rw [if_pos rfl] at H; exact H
      clear H
      have H := H1
      clear H1
      replace H := Option.bind_eq_some_iff.mp H
      obtain ⟨t105, A100, H⟩ := H
      replace H : (if t105 = true then (Qak.j0 k (decide ((l1_0.length : Int) > a1_2)) l0_0 l1_0 a1_1 a1_2 l1_3 a1_4) else (Qak.j0 k true l0_0 l1_0 a1_1 a1_2 l1_3 a1_4)) = some r := H
      have A10 := Aside0.mk A100
      clear A100
      by_cases c11 : t105 = true
      · subst c11
        have H1 : (Qak.j0 k (decide ((l1_0.length : Int) > a1_2)) l0_0 l1_0 a1_1 a1_2 l1_3 a1_4) = some r := by rw [if_pos rfl] at H; exact H
        clear H
        have H := H1
        clear H1
        have H' := Aside0.mk H
        clear H
        have hnb12 := NB101_102.out
        have hnc12 := NB102_101.out
        have hcz13_0 : w5.cell? ⟨gb101, 0, none⟩ = some (.slice A0_0 l0_0.length c0_0) := (Qab BK101.out 0).trans rfl
        have hfz13_0 := Qad BK101.out 0
        go_wp2_with (first | ((with_reducible refine Qal (f := 24) rfl ?_); refine QaU (some 11) rfl rfl Try.func24 (by kernel_rfl) rfl #[.agg #[.slice A0_0 l0_0.length c0_0]] rfl (by (try simp only [List.map_toArray, List.map_cons, List.map_nil]); first | done | rfl | (simp only [List.length_drop, List.length_take]; rfl)) ?_; (with_reducible refine (QbD.calls _ _ l0_0 true _ ?side1 ?side2 A6.out).mono ?_); (case side1 => exact cb_); (case side2 => exact HC0_0.out); rintro e w14 ⟨rfl, hb⟩; refine ⟨_, rfl, ?_⟩; have n0_ := Aside0.mk (bb_ BK101 hb); have n1_ := Aside0.mk (bb_ BK102 hb); have n2_ := Aside0.mk (Qac (bw_) hb); clear BK101; clear BK102; clear HB; have BK101 := n0_; have BK102 := n1_; have HB := n2_; clear n0_ n1_ n2_; (try clear hb); (try clear hb2); (try clear hk); (try clear hi); obtain ⟨hcz15_0, hcz15_1, hcz15_2, hcz15_3, hcz15_4, hfz15_0, hfz15_1, hfz15_2, hfz15_3, hfz15_4⟩ := Qbe BK102.out) | (go_at_call 62; (with_reducible refine (Qbm.calls a1_1 (-1) (wrap64 ((l1_0.length : Int) - 1)) true _ A8.out).mono ?_); rintro e w' ⟨rfl, ⟨nd, rfl⟩⟩; obtain ⟨hcz16_0, hfz16_0⟩ := QbM BK101.out) | (go_at_call 81; (with_reducible refine (QbJ.calls _ _ l0_0 a1_2 _ _ l1_3 a1_4 (a1_1 == (-1)) true _ ?side1 ?side2 ?side3 ?side4 A10.out).mono ?_); (case side1 => exact cb_); (case side2 => exact HC0_0.out); (case side3 => exact cb_); (case side4 => exact HC1_3.out); rintro e w17 ⟨rfl, hb⟩; have n0_ := Aside0.mk (bb_ BK101 hb); have n1_ := Aside0.mk (bb_ BK102 hb); have n2_ := Aside0.mk (Qac (bw_) hb); clear BK101; clear BK102; clear HB; have BK101 := n0_; have BK102 := n1_; have HB := n2_; clear n0_ n1_ n2_; (try clear hb); (try clear hb2); (try clear hk); (try clear hi); obtain ⟨hcz18_0, hcz18_1, hcz18_2, hcz18_3, hcz18_4, hfz18_0, hfz18_1, hfz18_2, hfz18_3, hfz18_4⟩ := Qbe BK102.out))
        go_meet
        case rel => exact ⟨_, (decide ((l1_0.length : Int) > a1_2)), (by first | rfl | (simp; done) | (simp [*]; done)), H', ⟨by first | omega | exact Nat.le_refl _⟩, ⟨by (refine kb_ ?_); exact BK101.out⟩, ⟨by (refine kb_ ?_); exact BK102.out⟩, ⟨bw_⟩⟩
      · replace c11 := Bool.eq_false_iff.mpr c11
        subst c11
        have H1 : (Qak.j0 k true l0_0 l1_0 a1_1 a1_2 l1_3 a1_4) = some r := by rw [if_neg (show ¬ (false = true) by decide)] at H; exact H
        clear H
        have H := H1
        clear H1
        have H' := Aside0.mk H
        clear H
        have hnb19 := NB101_102.out
        have hnc19 := NB102_101.out
        have hcz20_0 : w5.cell? ⟨gb101, 0, none⟩ = some (.slice A0_0 l0_0.length c0_0) := (Qab BK101.out 0).trans rfl
        have hfz20_0 := Qad BK101.out 0
        go_wp2_with (first | ((with_reducible refine Qal (f := 24) rfl ?_); refine QaU (some 11) rfl rfl Try.func24 (by kernel_rfl) rfl #[.agg #[.slice A0_0 l0_0.length c0_0]] rfl (by (try simp only [List.map_toArray, List.map_cons, List.map_nil]); first | done | rfl | (simp only [List.length_drop, List.length_take]; rfl)) ?_; (with_reducible refine (QbD.calls _ _ l0_0 true _ ?side1 ?side2 A6.out).mono ?_); (case side1 => exact cb_); (case side2 => exact HC0_0.out); rintro e w21 ⟨rfl, hb⟩; refine ⟨_, rfl, ?_⟩; have n0_ := Aside0.mk (bb_ BK101 hb); have n1_ := Aside0.mk (bb_ BK102 hb); have n2_ := Aside0.mk (Qac (bw_) hb); clear BK101; clear BK102; clear HB; have BK101 := n0_; have BK102 := n1_; have HB := n2_; clear n0_ n1_ n2_; (try clear hb); (try clear hb2); (try clear hk); (try clear hi); obtain ⟨hcz22_0, hcz22_1, hcz22_2, hcz22_3, hcz22_4, hfz22_0, hfz22_1, hfz22_2, hfz22_3, hfz22_4⟩ := Qbe BK102.out) | (go_at_call 62; (with_reducible refine (Qbm.calls a1_1 (-1) (wrap64 ((l1_0.length : Int) - 1)) true _ A8.out).mono ?_); rintro e w' ⟨rfl, ⟨nd, rfl⟩⟩; obtain ⟨hcz23_0, hfz23_0⟩ := QbM BK101.out) | (go_at_call 81; (with_reducible refine (QbJ.calls _ _ l0_0 a1_2 _ _ l1_3 a1_4 (a1_1 == (-1)) false _ ?side1 ?side2 ?side3 ?side4 A10.out).mono ?_); (case side1 => exact cb_); (case side2 => exact HC0_0.out); (case side3 => exact cb_); (case side4 => exact HC1_3.out); rintro e w24 ⟨rfl, hb⟩; have n0_ := Aside0.mk (bb_ BK101 hb); have n1_ := Aside0.mk (bb_ BK102 hb); have n2_ := Aside0.mk (Qac (bw_) hb); clear BK101; clear BK102; clear HB; have BK101 := n0_; have BK102 := n1_; have HB := n2_; clear n0_ n1_ n2_; (try clear hb); (try clear hb2); (try clear hk); (try clear hi)))
        go_meet
        case rel => exact ⟨_, (true), (by first | rfl | (simp; done) | (simp [*]; done)), H', ⟨by first | omega | exact Nat.le_refl _⟩, ⟨by (refine kb_ ?_); exact BK101.out⟩, ⟨by (refine kb_ ?_); exact BK102.out⟩, ⟨bw_⟩⟩
    · replace c9 := Bool.eq_false_iff.mpr c9
      subst c9
      have H1 : (Qak.j0 k true l0_0 l1_0 a1_1 a1_2 l1_3 a1_4) = some r := by rw [if_neg (show ¬ (false = true) by decide)] at H; exact H
      clear H
      have H := H1
      clear H1
      have H' := Aside0.mk H
      clear H
      have hnb25 := NB101_102.out
      have hnc25 := NB102_101.out
      have hcz26_0 : w5.cell? ⟨gb101, 0, none⟩ = some (.slice A0_0 l0_0.length c0_0) := (Qab BK101.out 0).trans rfl
      have hfz26_0 := Qad BK101.out 0
      go_wp2_with (first | ((with_reducible refine Qal (f := 24) rfl ?_); refine QaU (some 11) rfl rfl Try.func24 (by kernel_rfl) rfl #[.agg #[.slice A0_0 l0_0.length c0_0]] rfl (by (try simp only [List.map_toArray, List.map_cons, List.map_nil]); first | done | rfl | (simp only [List.length_drop, List.length_take]; rfl)) ?_; (with_reducible refine (QbD.calls _ _ l0_0 true _ ?side1 ?side2 A6.out).mono ?_); (case side1 => exact cb_); (case side2 => exact HC0_0.out); rintro e w27 ⟨rfl, hb⟩; refine ⟨_, rfl, ?_⟩; have n0_ := Aside0.mk (bb_ BK101 hb); have n1_ := Aside0.mk (bb_ BK102 hb); have n2_ := Aside0.mk (Qac (bw_) hb); clear BK101; clear BK102; clear HB; have BK101 := n0_; have BK102 := n1_; have HB := n2_; clear n0_ n1_ n2_; (try clear hb); (try clear hb2); (try clear hk); (try clear hi); obtain ⟨hcz28_0, hcz28_1, hcz28_2, hcz28_3, hcz28_4, hfz28_0, hfz28_1, hfz28_2, hfz28_3, hfz28_4⟩ := Qbe BK102.out) | (go_at_call 62; (with_reducible refine (Qbm.calls a1_1 (-1) (wrap64 ((l1_0.length : Int) - 1)) false _ A8.out).mono ?_); rintro e w' ⟨rfl, ⟨nd, rfl⟩⟩))
      go_meet
      case rel => exact ⟨_, (true), (by first | rfl | (simp; done) | (simp [*]; done)), H', ⟨by first | omega | exact Nat.le_refl _⟩, ⟨by (refine kb_ ?_); exact BK101.out⟩, ⟨by (refine kb_ ?_); exact BK102.out⟩, ⟨bw_⟩⟩
  · replace c7 := Bool.eq_false_iff.mpr c7
    subst c7
    have H1 : (Qak.j0 k true l0_0 l1_0 a1_1 a1_2 l1_3 a1_4) = some r := by rw [if_neg (show ¬ (false = true) by decide)] at H; exact H
    clear H
    have H := H1
    clear H1
    have H' := Aside0.mk H
    clear H
    have hnb29 := NB101_102.out
    have hnc29 := NB102_101.out
    have hcz30_0 : w5.cell? ⟨gb101, 0, none⟩ = some (.slice A0_0 l0_0.length c0_0) := (Qab BK101.out 0).trans rfl
    have hfz30_0 := Qad BK101.out 0
    go_wp2_with (first | ((with_reducible refine Qal (f := 24) rfl ?_); refine QaU (some 11) rfl rfl Try.func24 (by kernel_rfl) rfl #[.agg #[.slice A0_0 l0_0.length c0_0]] rfl (by (try simp only [List.map_toArray, List.map_cons, List.map_nil]); first | done | rfl | (simp only [List.length_drop, List.length_take]; rfl)) ?_; (with_reducible refine (QbD.calls _ _ l0_0 false _ ?side1 ?side2 A6.out).mono ?_); (case side1 => exact cb_); (case side2 => exact HC0_0.out); rintro e w31 ⟨rfl, hb⟩; refine ⟨_, rfl, ?_⟩; have n0_ := Aside0.mk (bb_ BK101 hb); have n1_ := Aside0.mk (bb_ BK102 hb); have n2_ := Aside0.mk (Qac (bw_) hb); clear BK101; clear BK102; clear HB; have BK101 := n0_; have BK102 := n1_; have HB := n2_; clear n0_ n1_ n2_; (try clear hb); (try clear hb2); (try clear hk); (try clear hi)))
    go_meet
    case rel => exact ⟨_, (true), (by first | rfl | (simp; done) | (simp [*]; done)), H', ⟨by first | omega | exact Nat.le_refl _⟩, ⟨by (refine kb_ ?_); exact BK101.out⟩, ⟨by (refine kb_ ?_); exact BK102.out⟩, ⟨bw_⟩⟩
 case rest =>
  clear HC3
  try clear c1
  try clear c2
  try clear p2
  try clear c3
  try clear p6
  try clear c7
  try clear c9
  try clear c11
  try clear c12
  try clear c19
  try clear c24
  try clear c25
  try clear c29
  try clear hcz13_0
  try clear hcz15_0
  try clear hcz15_1
  try clear hcz15_2
  try clear hcz15_3
  try clear hcz15_4
  try clear hcz16_0
  try clear hcz18_0
  try clear hcz18_1
  try clear hcz18_2
  try clear hcz18_3
  try clear hcz18_4
  try clear hcz20_0
  try clear hcz22_0
  try clear hcz22_1
  try clear hcz22_2
  try clear hcz22_3
  try clear hcz22_4
  try clear hcz23_0
  try clear hcz26_0
  try clear hcz28_0
  try clear hcz28_1
  try clear hcz28_2
  try clear hcz28_3
  try clear hcz28_4
  try clear hcz30_0
  try clear hfz13_0
  try clear hfz15_0
  try clear hfz15_1
  try clear hfz15_2
  try clear hfz15_3
  try clear hfz15_4
  try clear hfz16_0
  try clear hfz18_0
  try clear hfz18_1
  try clear hfz18_2
  try clear hfz18_3
  try clear hfz18_4
  try clear hfz20_0
  try clear hfz22_0
  try clear hfz22_1
  try clear hfz22_2
  try clear hfz22_3
  try clear hfz22_4
  try clear hfz23_0
  try clear hfz26_0
  try clear hfz28_0
  try clear hfz28_1
  try clear hfz28_2
  try clear hfz28_3
  try clear hfz28_4
  try clear hfz30_0
  obtain ⟨kq, x44_2, rfl, HA, HJ2, BK101, BK102, HB⟩ := hcut
  cases kq with
  | zero => exact absurd HA.out (by simp [Qak.j0])
  | succ kj2 =>
    have H := HA.out
    clear HA
    simp only [Qak.j0] at H
    by_cases c32 : x44_2 = true
    · subst c32
      have H1 : (some false) = some r := by rw [if_pos rfl] at H; exact H
      clear H
      have H := H1
      clear H1
      obtain rfl := Option.some.inj H
      go_wp2
      go_ret
      exact ⟨by first | rfl | (simp [Qaf, Qag] <;> rfl) | (simp [*, Qaf, Qag] <;> rfl), bw_⟩
    · replace c32 := Bool.eq_false_iff.mpr c32
      subst c32
      have H1 : (Qak.l0 kj2 0 l1_0 (l1_0.length : Int) 0 l0_0 l1_0 a1_1 a1_2 l1_3 a1_4) = some r := by rw [if_neg (show ¬ (false = true) by decide)] at H; exact H
      clear H
      have H := H1
      clear H1
      have H' := Aside0.mk H
      clear H
      have hnb33 := NB102_101.out
      have hnc33 := NB101_102.out
      have hcz34_0 : wc.cell? ⟨gb102, 0, none⟩ = some (.slice A1_0 l1_0.length c1_0) := (Qab BK102.out 0).trans rfl
      have hcz34_1 : wc.cell? ⟨gb102, 1, none⟩ = some (.int .i64 a1_1) := (Qab BK102.out 1).trans rfl
      have hcz34_2 : wc.cell? ⟨gb102, 2, none⟩ = some (.int .i64 a1_2) := (Qab BK102.out 2).trans rfl
      have hcz34_3 : wc.cell? ⟨gb102, 3, none⟩ = some (.slice A1_3 l1_3.length c1_3) := (Qab BK102.out 3).trans rfl
      have hcz34_4 : wc.cell? ⟨gb102, 4, none⟩ = some (.int .i64 a1_4) := (Qab BK102.out 4).trans rfl
      have hfz34_0 := Qad BK102.out 0
      have hfz34_1 := Qad BK102.out 1
      have hfz34_2 := Qad BK102.out 2
      have hfz34_3 := Qad BK102.out 3
      have hfz34_4 := Qad BK102.out 4
      go_wp2
      go_loopg [5, 48] kj2 (fun kq v5 v48 w' => ∃ (x5_2 : Int) (x48_2 : Int), v5 = .int .i64 x5_2 ∧ v48 = .int .i64 x48_2 ∧ Aside0 (Qak.l0 kq x5_2 l1_0 (l1_0.length : Int) x48_2 l0_0 l1_0 a1_1 a1_2 l1_3 a1_4 = some r) ∧ Aside0 (kq ≤ kj2) ∧ Aside0 (w'.heap[gb101]? = some (.cells #[(.slice A0_0 l0_0.length c0_0)] 25 (0, 0))) ∧ Aside0 (w'.heap[gb102]? = some (.cells #[(.slice A1_0 l1_0.length c1_0), .int .i64 a1_1, .int .i64 a1_2, (.slice A1_3 l1_3.length c1_3), .int .i64 a1_4] 46 (0, 0))) ∧ Aside0 (Below w.heap.size w w'))
      case atStart => exact ⟨(0), (0), (by first | rfl | (simp; done) | (simp [*]; done)), (by first | rfl | (simp; done) | (simp [*]; done)), H', ⟨Nat.le_refl _⟩, ⟨by (refine kb_ ?_); exact BK101.out⟩, ⟨by (refine kb_ ?_); exact BK102.out⟩, ⟨bw_⟩⟩
      case round =>
       clear H'
       try clear c1
       try clear c2
       try clear p2
       try clear c3
       try clear p6
       try clear c7
       try clear c9
       try clear c11
       try clear c12
       try clear c19
       try clear c24
       try clear c25
       try clear c29
       try clear c32
       try clear c33
       try clear hcz13_0
       try clear hcz15_0
       try clear hcz15_1
       try clear hcz15_2
       try clear hcz15_3
       try clear hcz15_4
       try clear hcz16_0
       try clear hcz18_0
       try clear hcz18_1
       try clear hcz18_2
       try clear hcz18_3
       try clear hcz18_4
       try clear hcz20_0
       try clear hcz22_0
       try clear hcz22_1
       try clear hcz22_2
       try clear hcz22_3
       try clear hcz22_4
       try clear hcz23_0
       try clear hcz26_0
       try clear hcz28_0
       try clear hcz28_1
       try clear hcz28_2
       try clear hcz28_3
       try clear hcz28_4
       try clear hcz30_0
       try clear hcz34_0
       try clear hcz34_1
       try clear hcz34_2
       try clear hcz34_3
       try clear hcz34_4
       try clear hfz13_0
       try clear hfz15_0
       try clear hfz15_1
       try clear hfz15_2
       try clear hfz15_3
       try clear hfz15_4
       try clear hfz16_0
       try clear hfz18_0
       try clear hfz18_1
       try clear hfz18_2
       try clear hfz18_3
       try clear hfz18_4
       try clear hfz20_0
       try clear hfz22_0
       try clear hfz22_1
       try clear hfz22_2
       try clear hfz22_3
       try clear hfz22_4
       try clear hfz23_0
       try clear hfz26_0
       try clear hfz28_0
       try clear hfz28_1
       try clear hfz28_2
       try clear hfz28_3
       try clear hfz28_4
       try clear hfz30_0
       try clear hfz34_0
       try clear hfz34_1
       try clear hfz34_2
       try clear hfz34_3
       try clear hfz34_4
       try clear p2
       try clear p6
       obtain ⟨x5_2, x48_2, rfl, rfl, HA, HK2, BK101, BK102, HB⟩ := hrel
       cases gk with
       | zero => exact absurd HA.out (by simp [Qak.l0])
       | succ k2 =>
         have H := HA.out
         clear HA
         simp only [Qak.l0] at H
         by_cases c35 : x48_2 < (l1_0.length : Int)
         · rw [if_pos c35] at H
           have c35b0 : decide (x48_2 < (l1_0.length : Int)) = true := decide_eq_true c35
           clear c35
           by_cases c36 : 0 ≤ x48_2
           · rw [if_pos c36] at H
             have c36b0 : decide (0 ≤ x48_2) = true := decide_eq_true c36
             clear c36
             by_cases c37 : x48_2 < (l1_0.length : Int)
             · rw [if_pos c37] at H
               have c37b0 : decide (x48_2 < (l1_0.length : Int)) = true := decide_eq_true c37
               clear c37
               replace H := Option.bind_eq_some_iff.mp H
               obtain ⟨t108, A380, H⟩ := H
               replace H : (if t108 = true then (if ((Qaa l1_0 x48_2).f5 = true) then (Qak.l0 k2 x5_2 l1_0 (l1_0.length : Int) (wrap64 (x48_2 + 1)) l0_0 l1_0 a1_1 a1_2 l1_3 a1_4) else (Qak.l0 k2 (wrap64 (x5_2 + 1)) l1_0 (l1_0.length : Int) (wrap64 (x48_2 + 1)) l0_0 l1_0 a1_1 a1_2 l1_3 a1_4)) else (some false)) = some r := H
               have A38 := Aside0.mk A380
               clear A380
               by_cases c39 : t108 = true
               · subst c39
                 have H1 : (if ((Qaa l1_0 x48_2).f5 = true) then (Qak.l0 k2 x5_2 l1_0 (l1_0.length : Int) (wrap64 (x48_2 + 1)) l0_0 l1_0 a1_1 a1_2 l1_3 a1_4) else (Qak.l0 k2 (wrap64 (x5_2 + 1)) l1_0 (l1_0.length : Int) (wrap64 (x48_2 + 1)) l0_0 l1_0 a1_1 a1_2 l1_3 a1_4)) = some r := by rw [if_pos rfl] at H; exact H
                 clear H
                 have H := H1
                 clear H1
                 obtain ⟨bq40, hbq40⟩ : ∃ b_ : Bool, b_ = ((Qaa l1_0 x48_2).f5) := ⟨_, rfl⟩
                 replace H : (if (bq40 = true) then (Qak.l0 k2 x5_2 l1_0 (l1_0.length : Int) (wrap64 (x48_2 + 1)) l0_0 l1_0 a1_1 a1_2 l1_3 a1_4) else (Qak.l0 k2 (wrap64 (x5_2 + 1)) l1_0 (l1_0.length : Int) (wrap64 (x48_2 + 1)) l0_0 l1_0 a1_1 a1_2 l1_3 a1_4)) = some r := by rw [← hbq40] at H; exact H
                 have Nbq40 := Aside0.mk hbq40
                 clear hbq40
                 by_cases c41 : (bq40 = true)
                 · subst c41
                   have H1 : (Qak.l0 k2 x5_2 l1_0 (l1_0.length : Int) (wrap64 (x48_2 + 1)) l0_0 l1_0 a1_1 a1_2 l1_3 a1_4) = some r := by rw [if_pos rfl] at H; exact H
                   clear H
                   have H := H1
                   clear H1
                   have H' := Aside0.mk H
                   clear H
                   have p106 : 0 ≤ (x48_2 : Int) := of_decide_eq_true (by first | (with_reducible assumption) | assumption)
                   have q106 : x48_2 < (l1_0.length : Int) := of_decide_eq_true (by first | (with_reducible assumption) | assumption)
                   obtain ⟨ad106, A106_2, c106_2, A106_3, c106_3, e106, hx106_0, hx106_1, hx106_2, hx106_3, hx106_4, hx106_5, hl106_2, hi106_2, hl106_3, hi106_3⟩ := Qa9 HR1_0.out x48_2 p106 q106
                   (try rw [← Nbq40.out] at hx106_5)
                   (try (have hA_ := A38.out; rw [← Nbq40.out] at hA_; replace A38 := Aside0.mk hA_; clear hA_))
                   (try rw [← Nbq40.out] at hw106_5)
                   cases e106
                   replace hx106_0 := pc_ HB hx106_0
                   replace hx106_1 := pc_ HB hx106_1
                   replace hx106_2 := pc_ HB hx106_2
                   replace hx106_3 := pc_ HB hx106_3
                   replace hx106_4 := pc_ HB hx106_4
                   replace hx106_5 := pc_ HB hx106_5
                   have HR106_2 := Aside0.mk hi106_2
                   have HC106_2 := Aside0.mk hl106_2
                   clear hi106_2 hl106_2
                   have HR106_3 := Aside0.mk hi106_3
                   have HC106_3 := Aside0.mk hl106_3
                   clear hi106_3 hl106_3
                   replace p106 := eq_true p106
                   replace q106 := eq_true q106
                   go_wp2_with (first | ((with_reducible refine Qaq (N := 7) rfl ?_); (try (refine Qbg (by rfl) ?_; dsimp only)); refine Qam ?hg (N := 7) ?hd (cs := #[.int .i64 0, .int .i64 0, .slice none 0 0, .slice none 0 0, .int .i64 0, .bool false]) (t := 67) ?hr ?_; (case hd => rfl); (case hg => rfl); (case hr => first | (go_simp; done) | (go_simp; rfl)); intro gb107 hg w42 hbox hb; have n0_ := Aside0.mk (bb_ BK101 hb); have n1_ := Aside0.mk (bb_ BK102 hb); have n2_ := Aside0.mk (Qac (bw_) hb); have n3_ := Aside0.mk (hbox); have n4_ := Aside0.mk ((gs_ hg bw_ : w.heap.size ≤ gb107)); have n5_ := Aside0.mk ((gs_ hg bw_ : w.heap.size ≤ gb107)); have n6_ := Aside0.mk ((nl_ hg BK101 : gb101 ≠ gb107)); have n7_ := Aside0.mk ((ng_ hg BK101 : gb107 ≠ gb101)); have n8_ := Aside0.mk ((nl_ hg BK102 : gb102 ≠ gb107)); have n9_ := Aside0.mk ((ng_ hg BK102 : gb107 ≠ gb102)); clear BK101; clear BK102; clear HB; have BK101 := n0_; have BK102 := n1_; have HB := n2_; have BK107 := n3_; have GW107 := n4_; have GE107 := n5_; have NB101_107 := n6_; have NB107_101 := n7_; have NB102_107 := n8_; have NB107_102 := n9_; clear n0_ n1_ n2_ n3_ n4_ n5_ n6_ n7_ n8_ n9_; clear hb hbox hg; have hnb43 := NB107_101.out; have hnc43 := NB101_107.out; have hnb44 := NB107_102.out; have hnc44 := NB102_107.out; obtain ⟨hcz45_0, hcz45_1, hcz45_2, hcz45_3, hcz45_4, hcz45_5, hfz45_0, hfz45_1, hfz45_2, hfz45_3, hfz45_4, hfz45_5⟩ := Qbl BK107.out; have hnb46 := NB101_102.out; have hnc46 := NB102_101.out; obtain ⟨hcz47_0, hfz47_0⟩ := QbM BK101.out; obtain ⟨hcz48_0, hcz48_1, hcz48_2, hcz48_3, hcz48_4, hfz48_0, hfz48_1, hfz48_2, hfz48_3, hfz48_4⟩ := Qbe BK102.out) | ((with_reducible refine Qal (f := 82) rfl ?_); refine QaU (some 57) rfl rfl Try.func82 (by kernel_rfl) rfl #[.agg #[.int .i64 ((Qaa l1_0 x48_2).f0), .int .i64 ((Qaa l1_0 x48_2).f1), .slice A106_2 ((Qaa l1_0 x48_2).f2).length c106_2, .slice A106_3 ((Qaa l1_0 x48_2).f3).length c106_3, .int .i64 ((Qaa l1_0 x48_2).f4), .bool true], .agg #[.slice A0_0 l0_0.length c0_0], .int .i64 (l1_0.length : Int)] rfl (by (try simp only [List.map_toArray, List.map_cons, List.map_nil]); first | done | rfl | (simp only [List.length_drop, List.length_take]; rfl)) ?_; (with_reducible refine (Qan.calls k2 ((Qaa l1_0 x48_2).f0) ((Qaa l1_0 x48_2).f1) _ _ ((Qaa l1_0 x48_2).f2) _ _ ((Qaa l1_0 x48_2).f3) ((Qaa l1_0 x48_2).f4) true _ _ l0_0 (l1_0.length : Int) true _ ?side1 ?side2 ?side3 ?side4 ?side5 ?side6 A38.out).mono ?_); (case side1 => exact Kd.C_below HR106_2.out (bw_)); (case side2 => exact HC106_2.out); (case side3 => exact Kd.C_below HR106_3.out (bw_)); (case side4 => exact HC106_3.out); (case side5 => exact Kd.C_below HR0_0.out (bw_)); (case side6 => exact HC0_0.out); rintro e w49 ⟨rfl, hb⟩; refine ⟨_, rfl, ?_⟩; have n0_ := Aside0.mk (QaV (g := gb101) (o := .cells #[.slice A0_0 l0_0.length c0_0] 25 (0, 0)) (by (refine kb_ ?_); refine Qar ?_ NB101_107.out _; (refine kb_ ?_); refine Qar ?_ NB101_107.out _; (refine kb_ ?_); refine Qar ?_ NB101_107.out _; (refine kb_ ?_); refine Qar ?_ NB101_107.out _; (refine kb_ ?_); refine Qar ?_ NB101_107.out _; (refine kb_ ?_); refine Qar ?_ NB101_107.out _; (refine kb_ ?_); exact BK101.out) hb); have n1_ := Aside0.mk (QaV (g := gb102) (o := .cells #[.slice (some ad106) l1_0.length c1_0, .int .i64 a1_1, .int .i64 a1_2, .slice A1_3 l1_3.length c1_3, .int .i64 a1_4] 46 (0, 0)) (by (refine kb_ ?_); refine Qar ?_ NB102_107.out _; (refine kb_ ?_); refine Qar ?_ NB102_107.out _; (refine kb_ ?_); refine Qar ?_ NB102_107.out _; (refine kb_ ?_); refine Qar ?_ NB102_107.out _; (refine kb_ ?_); refine Qar ?_ NB102_107.out _; (refine kb_ ?_); refine Qar ?_ NB102_107.out _; (refine kb_ ?_); exact BK102.out) hb); have n2_ := Aside0.mk (QaV (g := gb107) (o := .cells #[.int .i64 ((Qaa l1_0 x48_2).f0), .int .i64 ((Qaa l1_0 x48_2).f1), .slice A106_2 ((Qaa l1_0 x48_2).f2).length c106_2, .slice A106_3 ((Qaa l1_0 x48_2).f3).length c106_3, .int .i64 ((Qaa l1_0 x48_2).f4), .bool true] 67 (0, 0)) (by (refine kb_ ?_); refine Qa1 (cs := #[.int .i64 ((Qaa l1_0 x48_2).f0), .int .i64 ((Qaa l1_0 x48_2).f1), .slice A106_2 ((Qaa l1_0 x48_2).f2).length c106_2, .slice A106_3 ((Qaa l1_0 x48_2).f3).length c106_3, .int .i64 ((Qaa l1_0 x48_2).f4), .bool false]) ?_ 5 _ rfl; (refine kb_ ?_); refine Qa1 (cs := #[.int .i64 ((Qaa l1_0 x48_2).f0), .int .i64 ((Qaa l1_0 x48_2).f1), .slice A106_2 ((Qaa l1_0 x48_2).f2).length c106_2, .slice A106_3 ((Qaa l1_0 x48_2).f3).length c106_3, .int .i64 0, .bool false]) ?_ 4 _ rfl; (refine kb_ ?_); refine Qa1 (cs := #[.int .i64 ((Qaa l1_0 x48_2).f0), .int .i64 ((Qaa l1_0 x48_2).f1), .slice A106_2 ((Qaa l1_0 x48_2).f2).length c106_2, .slice none 0 0, .int .i64 0, .bool false]) ?_ 3 _ rfl; (refine kb_ ?_); refine Qa1 (cs := #[.int .i64 ((Qaa l1_0 x48_2).f0), .int .i64 ((Qaa l1_0 x48_2).f1), .slice none 0 0, .slice none 0 0, .int .i64 0, .bool false]) ?_ 2 _ rfl; (refine kb_ ?_); refine Qa1 (cs := #[.int .i64 ((Qaa l1_0 x48_2).f0), .int .i64 0, .slice none 0 0, .slice none 0 0, .int .i64 0, .bool false]) ?_ 1 _ rfl; (refine kb_ ?_); refine Qa1 (cs := #[.int .i64 0, .int .i64 0, .slice none 0 0, .slice none 0 0, .int .i64 0, .bool false]) ?_ 0 _ rfl; (refine kb_ ?_); exact BK107.out) hb); have n3_ := Aside0.mk (Qac (bw_) hb); clear BK101; clear BK102; clear BK107; clear HB; have BK101 := n0_; have BK102 := n1_; have BK107 := n2_; have HB := n3_; clear n0_ n1_ n2_ n3_; (try clear hb); (try clear hb2); (try clear hk); (try clear hi); obtain ⟨hcz50_0, hcz50_1, hcz50_2, hcz50_3, hcz50_4, hcz50_5, hfz50_0, hfz50_1, hfz50_2, hfz50_3, hfz50_4, hfz50_5⟩ := Qbl BK107.out))
                   go_roundg k2
                   case measure => have := HJ2.out; have := HK2.out; omega
                   case rel => exact ⟨(x5_2), (wrap64 (x48_2 + 1)), (by first | rfl | (simp; done) | (simp [*]; done)), (by first | rfl | (simp; done) | (simp [*]; done)), H', ⟨by have := HJ2.out; have := HK2.out; omega⟩, ⟨by (refine kb_ ?_); exact BK101.out⟩, ⟨by (refine kb_ ?_); exact BK102.out⟩, ⟨bw_⟩⟩
                 · replace c41 := Bool.eq_false_iff.mpr c41
                   subst c41
                   have H1 : (Qak.l0 k2 (wrap64 (x5_2 + 1)) l1_0 (l1_0.length : Int) (wrap64 (x48_2 + 1)) l0_0 l1_0 a1_1 a1_2 l1_3 a1_4) = some r := by rw [if_neg (show ¬ (false = true) by decide)] at H; exact H
                   clear H
                   have H := H1
                   clear H1
                   have H' := Aside0.mk H
                   clear H
                   have p106 : 0 ≤ (x48_2 : Int) := of_decide_eq_true (by first | (with_reducible assumption) | assumption)
                   have q106 : x48_2 < (l1_0.length : Int) := of_decide_eq_true (by first | (with_reducible assumption) | assumption)
                   obtain ⟨ad106, A106_2, c106_2, A106_3, c106_3, e106, hx106_0, hx106_1, hx106_2, hx106_3, hx106_4, hx106_5, hl106_2, hi106_2, hl106_3, hi106_3⟩ := Qa9 HR1_0.out x48_2 p106 q106
                   (try rw [← Nbq40.out] at hx106_5)
                   (try (have hA_ := A38.out; rw [← Nbq40.out] at hA_; replace A38 := Aside0.mk hA_; clear hA_))
                   (try rw [← Nbq40.out] at hw106_5)
                   cases e106
                   replace hx106_0 := pc_ HB hx106_0
                   replace hx106_1 := pc_ HB hx106_1
                   replace hx106_2 := pc_ HB hx106_2
                   replace hx106_3 := pc_ HB hx106_3
                   replace hx106_4 := pc_ HB hx106_4
                   replace hx106_5 := pc_ HB hx106_5
                   have HR106_2 := Aside0.mk hi106_2
                   have HC106_2 := Aside0.mk hl106_2
                   clear hi106_2 hl106_2
                   have HR106_3 := Aside0.mk hi106_3
                   have HC106_3 := Aside0.mk hl106_3
                   clear hi106_3 hl106_3
                   replace p106 := eq_true p106
                   replace q106 := eq_true q106
                   go_wp2_with (first | ((with_reducible refine Qaq (N := 7) rfl ?_); (try (refine Qbg (by rfl) ?_; dsimp only)); refine Qam ?hg (N := 7) ?hd (cs := #[.int .i64 0, .int .i64 0, .slice none 0 0, .slice none 0 0, .int .i64 0, .bool false]) (t := 67) ?hr ?_; (case hd => rfl); (case hg => rfl); (case hr => first | (go_simp; done) | (go_simp; rfl)); intro gb107 hg w51 hbox hb; have n0_ := Aside0.mk (bb_ BK101 hb); have n1_ := Aside0.mk (bb_ BK102 hb); have n2_ := Aside0.mk (Qac (bw_) hb); have n3_ := Aside0.mk (hbox); have n4_ := Aside0.mk ((gs_ hg bw_ : w.heap.size ≤ gb107)); have n5_ := Aside0.mk ((gs_ hg bw_ : w.heap.size ≤ gb107)); have n6_ := Aside0.mk ((nl_ hg BK101 : gb101 ≠ gb107)); have n7_ := Aside0.mk ((ng_ hg BK101 : gb107 ≠ gb101)); have n8_ := Aside0.mk ((nl_ hg BK102 : gb102 ≠ gb107)); have n9_ := Aside0.mk ((ng_ hg BK102 : gb107 ≠ gb102)); clear BK101; clear BK102; clear HB; have BK101 := n0_; have BK102 := n1_; have HB := n2_; have BK107 := n3_; have GW107 := n4_; have GE107 := n5_; have NB101_107 := n6_; have NB107_101 := n7_; have NB102_107 := n8_; have NB107_102 := n9_; clear n0_ n1_ n2_ n3_ n4_ n5_ n6_ n7_ n8_ n9_; clear hb hbox hg; have hnb52 := NB107_101.out; have hnc52 := NB101_107.out; have hnb53 := NB107_102.out; have hnc53 := NB102_107.out; obtain ⟨hcz54_0, hcz54_1, hcz54_2, hcz54_3, hcz54_4, hcz54_5, hfz54_0, hfz54_1, hfz54_2, hfz54_3, hfz54_4, hfz54_5⟩ := Qbl BK107.out; have hnb55 := NB101_102.out; have hnc55 := NB102_101.out; obtain ⟨hcz56_0, hfz56_0⟩ := QbM BK101.out; obtain ⟨hcz57_0, hcz57_1, hcz57_2, hcz57_3, hcz57_4, hfz57_0, hfz57_1, hfz57_2, hfz57_3, hfz57_4⟩ := Qbe BK102.out) | ((with_reducible refine Qal (f := 82) rfl ?_); refine QaU (some 57) rfl rfl Try.func82 (by kernel_rfl) rfl #[.agg #[.int .i64 ((Qaa l1_0 x48_2).f0), .int .i64 ((Qaa l1_0 x48_2).f1), .slice A106_2 ((Qaa l1_0 x48_2).f2).length c106_2, .slice A106_3 ((Qaa l1_0 x48_2).f3).length c106_3, .int .i64 ((Qaa l1_0 x48_2).f4), .bool false], .agg #[.slice A0_0 l0_0.length c0_0], .int .i64 (l1_0.length : Int)] rfl (by (try simp only [List.map_toArray, List.map_cons, List.map_nil]); first | done | rfl | (simp only [List.length_drop, List.length_take]; rfl)) ?_; (with_reducible refine (Qan.calls k2 ((Qaa l1_0 x48_2).f0) ((Qaa l1_0 x48_2).f1) _ _ ((Qaa l1_0 x48_2).f2) _ _ ((Qaa l1_0 x48_2).f3) ((Qaa l1_0 x48_2).f4) false _ _ l0_0 (l1_0.length : Int) true _ ?side1 ?side2 ?side3 ?side4 ?side5 ?side6 A38.out).mono ?_); (case side1 => exact Kd.C_below HR106_2.out (bw_)); (case side2 => exact HC106_2.out); (case side3 => exact Kd.C_below HR106_3.out (bw_)); (case side4 => exact HC106_3.out); (case side5 => exact Kd.C_below HR0_0.out (bw_)); (case side6 => exact HC0_0.out); rintro e w58 ⟨rfl, hb⟩; refine ⟨_, rfl, ?_⟩; have n0_ := Aside0.mk (QaV (g := gb101) (o := .cells #[.slice A0_0 l0_0.length c0_0] 25 (0, 0)) (by (refine kb_ ?_); refine Qar ?_ NB101_107.out _; (refine kb_ ?_); refine Qar ?_ NB101_107.out _; (refine kb_ ?_); refine Qar ?_ NB101_107.out _; (refine kb_ ?_); refine Qar ?_ NB101_107.out _; (refine kb_ ?_); refine Qar ?_ NB101_107.out _; (refine kb_ ?_); refine Qar ?_ NB101_107.out _; (refine kb_ ?_); exact BK101.out) hb); have n1_ := Aside0.mk (QaV (g := gb102) (o := .cells #[.slice (some ad106) l1_0.length c1_0, .int .i64 a1_1, .int .i64 a1_2, .slice A1_3 l1_3.length c1_3, .int .i64 a1_4] 46 (0, 0)) (by (refine kb_ ?_); refine Qar ?_ NB102_107.out _; (refine kb_ ?_); refine Qar ?_ NB102_107.out _; (refine kb_ ?_); refine Qar ?_ NB102_107.out _; (refine kb_ ?_); refine Qar ?_ NB102_107.out _; (refine kb_ ?_); refine Qar ?_ NB102_107.out _; (refine kb_ ?_); refine Qar ?_ NB102_107.out _; (refine kb_ ?_); exact BK102.out) hb); have n2_ := Aside0.mk (QaV (g := gb107) (o := .cells #[.int .i64 ((Qaa l1_0 x48_2).f0), .int .i64 ((Qaa l1_0 x48_2).f1), .slice A106_2 ((Qaa l1_0 x48_2).f2).length c106_2, .slice A106_3 ((Qaa l1_0 x48_2).f3).length c106_3, .int .i64 ((Qaa l1_0 x48_2).f4), .bool false] 67 (0, 0)) (by (refine kb_ ?_); refine Qa1 (cs := #[.int .i64 ((Qaa l1_0 x48_2).f0), .int .i64 ((Qaa l1_0 x48_2).f1), .slice A106_2 ((Qaa l1_0 x48_2).f2).length c106_2, .slice A106_3 ((Qaa l1_0 x48_2).f3).length c106_3, .int .i64 ((Qaa l1_0 x48_2).f4), .bool false]) ?_ 5 _ rfl; (refine kb_ ?_); refine Qa1 (cs := #[.int .i64 ((Qaa l1_0 x48_2).f0), .int .i64 ((Qaa l1_0 x48_2).f1), .slice A106_2 ((Qaa l1_0 x48_2).f2).length c106_2, .slice A106_3 ((Qaa l1_0 x48_2).f3).length c106_3, .int .i64 0, .bool false]) ?_ 4 _ rfl; (refine kb_ ?_); refine Qa1 (cs := #[.int .i64 ((Qaa l1_0 x48_2).f0), .int .i64 ((Qaa l1_0 x48_2).f1), .slice A106_2 ((Qaa l1_0 x48_2).f2).length c106_2, .slice none 0 0, .int .i64 0, .bool false]) ?_ 3 _ rfl; (refine kb_ ?_); refine Qa1 (cs := #[.int .i64 ((Qaa l1_0 x48_2).f0), .int .i64 ((Qaa l1_0 x48_2).f1), .slice none 0 0, .slice none 0 0, .int .i64 0, .bool false]) ?_ 2 _ rfl; (refine kb_ ?_); refine Qa1 (cs := #[.int .i64 ((Qaa l1_0 x48_2).f0), .int .i64 0, .slice none 0 0, .slice none 0 0, .int .i64 0, .bool false]) ?_ 1 _ rfl; (refine kb_ ?_); refine Qa1 (cs := #[.int .i64 0, .int .i64 0, .slice none 0 0, .slice none 0 0, .int .i64 0, .bool false]) ?_ 0 _ rfl; (refine kb_ ?_); exact BK107.out) hb); have n3_ := Aside0.mk (Qac (bw_) hb); clear BK101; clear BK102; clear BK107; clear HB; have BK101 := n0_; have BK102 := n1_; have BK107 := n2_; have HB := n3_; clear n0_ n1_ n2_ n3_; (try clear hb); (try clear hb2); (try clear hk); (try clear hi); obtain ⟨hcz59_0, hcz59_1, hcz59_2, hcz59_3, hcz59_4, hcz59_5, hfz59_0, hfz59_1, hfz59_2, hfz59_3, hfz59_4, hfz59_5⟩ := Qbl BK107.out))
                   go_roundg k2
                   case measure => have := HJ2.out; have := HK2.out; omega
                   case rel => exact ⟨(wrap64 (x5_2 + 1)), (wrap64 (x48_2 + 1)), (by first | rfl | (simp; done) | (simp [*]; done)), (by first | rfl | (simp; done) | (simp [*]; done)), H', ⟨by have := HJ2.out; have := HK2.out; omega⟩, ⟨by (refine kb_ ?_); exact BK101.out⟩, ⟨by (refine kb_ ?_); exact BK102.out⟩, ⟨bw_⟩⟩
               · replace c39 := Bool.eq_false_iff.mpr c39
                 subst c39
                 have H1 : (some false) = some r := by rw [if_neg (show ¬ (false = true) by decide)] at H; exact H
                 clear H
                 have H := H1
                 clear H1
                 obtain rfl := Option.some.inj H
                 have p106 : 0 ≤ (x48_2 : Int) := of_decide_eq_true (by first | (with_reducible assumption) | assumption)
                 have q106 : x48_2 < (l1_0.length : Int) := of_decide_eq_true (by first | (with_reducible assumption) | assumption)
                 obtain ⟨ad106, A106_2, c106_2, A106_3, c106_3, e106, hx106_0, hx106_1, hx106_2, hx106_3, hx106_4, hx106_5, hl106_2, hi106_2, hl106_3, hi106_3⟩ := Qa9 HR1_0.out x48_2 p106 q106
                 cases e106
                 replace hx106_0 := pc_ HB hx106_0
                 replace hx106_1 := pc_ HB hx106_1
                 replace hx106_2 := pc_ HB hx106_2
                 replace hx106_3 := pc_ HB hx106_3
                 replace hx106_4 := pc_ HB hx106_4
                 replace hx106_5 := pc_ HB hx106_5
                 have HR106_2 := Aside0.mk hi106_2
                 have HC106_2 := Aside0.mk hl106_2
                 clear hi106_2 hl106_2
                 have HR106_3 := Aside0.mk hi106_3
                 have HC106_3 := Aside0.mk hl106_3
                 clear hi106_3 hl106_3
                 replace p106 := eq_true p106
                 replace q106 := eq_true q106
                 go_wp2_with (first | ((with_reducible refine Qaq (N := 7) rfl ?_); (try (refine Qbg (by rfl) ?_; dsimp only)); refine Qam ?hg (N := 7) ?hd (cs := #[.int .i64 0, .int .i64 0, .slice none 0 0, .slice none 0 0, .int .i64 0, .bool false]) (t := 67) ?hr ?_; (case hd => rfl); (case hg => rfl); (case hr => first | (go_simp; done) | (go_simp; rfl)); intro gb107 hg w60 hbox hb; have n0_ := Aside0.mk (bb_ BK101 hb); have n1_ := Aside0.mk (bb_ BK102 hb); have n2_ := Aside0.mk (Qac (bw_) hb); have n3_ := Aside0.mk (hbox); have n4_ := Aside0.mk ((gs_ hg bw_ : w.heap.size ≤ gb107)); have n5_ := Aside0.mk ((gs_ hg bw_ : w.heap.size ≤ gb107)); have n6_ := Aside0.mk ((nl_ hg BK101 : gb101 ≠ gb107)); have n7_ := Aside0.mk ((ng_ hg BK101 : gb107 ≠ gb101)); have n8_ := Aside0.mk ((nl_ hg BK102 : gb102 ≠ gb107)); have n9_ := Aside0.mk ((ng_ hg BK102 : gb107 ≠ gb102)); clear BK101; clear BK102; clear HB; have BK101 := n0_; have BK102 := n1_; have HB := n2_; have BK107 := n3_; have GW107 := n4_; have GE107 := n5_; have NB101_107 := n6_; have NB107_101 := n7_; have NB102_107 := n8_; have NB107_102 := n9_; clear n0_ n1_ n2_ n3_ n4_ n5_ n6_ n7_ n8_ n9_; clear hb hbox hg; have hnb61 := NB107_101.out; have hnc61 := NB101_107.out; have hnb62 := NB107_102.out; have hnc62 := NB102_107.out; obtain ⟨hcz63_0, hcz63_1, hcz63_2, hcz63_3, hcz63_4, hcz63_5, hfz63_0, hfz63_1, hfz63_2, hfz63_3, hfz63_4, hfz63_5⟩ := Qbl BK107.out; have hnb64 := NB101_102.out; have hnc64 := NB102_101.out; obtain ⟨hcz65_0, hfz65_0⟩ := QbM BK101.out; obtain ⟨hcz66_0, hcz66_1, hcz66_2, hcz66_3, hcz66_4, hfz66_0, hfz66_1, hfz66_2, hfz66_3, hfz66_4⟩ := Qbe BK102.out) | ((with_reducible refine Qal (f := 82) rfl ?_); refine QaU (some 57) rfl rfl Try.func82 (by kernel_rfl) rfl #[.agg #[.int .i64 ((Qaa l1_0 x48_2).f0), .int .i64 ((Qaa l1_0 x48_2).f1), .slice A106_2 ((Qaa l1_0 x48_2).f2).length c106_2, .slice A106_3 ((Qaa l1_0 x48_2).f3).length c106_3, .int .i64 ((Qaa l1_0 x48_2).f4), .bool ((Qaa l1_0 x48_2).f5)], .agg #[.slice A0_0 l0_0.length c0_0], .int .i64 (l1_0.length : Int)] rfl (by (try simp only [List.map_toArray, List.map_cons, List.map_nil]); first | done | rfl | (simp only [List.length_drop, List.length_take]; rfl)) ?_; (with_reducible refine (Qan.calls k2 ((Qaa l1_0 x48_2).f0) ((Qaa l1_0 x48_2).f1) _ _ ((Qaa l1_0 x48_2).f2) _ _ ((Qaa l1_0 x48_2).f3) ((Qaa l1_0 x48_2).f4) ((Qaa l1_0 x48_2).f5) _ _ l0_0 (l1_0.length : Int) false _ ?side1 ?side2 ?side3 ?side4 ?side5 ?side6 A38.out).mono ?_); (case side1 => exact Kd.C_below HR106_2.out (bw_)); (case side2 => exact HC106_2.out); (case side3 => exact Kd.C_below HR106_3.out (bw_)); (case side4 => exact HC106_3.out); (case side5 => exact Kd.C_below HR0_0.out (bw_)); (case side6 => exact HC0_0.out); rintro e w67 ⟨rfl, hb⟩; refine ⟨_, rfl, ?_⟩; have n0_ := Aside0.mk (QaV (g := gb101) (o := .cells #[.slice A0_0 l0_0.length c0_0] 25 (0, 0)) (by (refine kb_ ?_); refine Qar ?_ NB101_107.out _; (refine kb_ ?_); refine Qar ?_ NB101_107.out _; (refine kb_ ?_); refine Qar ?_ NB101_107.out _; (refine kb_ ?_); refine Qar ?_ NB101_107.out _; (refine kb_ ?_); refine Qar ?_ NB101_107.out _; (refine kb_ ?_); refine Qar ?_ NB101_107.out _; (refine kb_ ?_); exact BK101.out) hb); have n1_ := Aside0.mk (QaV (g := gb102) (o := .cells #[.slice (some ad106) l1_0.length c1_0, .int .i64 a1_1, .int .i64 a1_2, .slice A1_3 l1_3.length c1_3, .int .i64 a1_4] 46 (0, 0)) (by (refine kb_ ?_); refine Qar ?_ NB102_107.out _; (refine kb_ ?_); refine Qar ?_ NB102_107.out _; (refine kb_ ?_); refine Qar ?_ NB102_107.out _; (refine kb_ ?_); refine Qar ?_ NB102_107.out _; (refine kb_ ?_); refine Qar ?_ NB102_107.out _; (refine kb_ ?_); refine Qar ?_ NB102_107.out _; (refine kb_ ?_); exact BK102.out) hb); have n2_ := Aside0.mk (QaV (g := gb107) (o := .cells #[.int .i64 ((Qaa l1_0 x48_2).f0), .int .i64 ((Qaa l1_0 x48_2).f1), .slice A106_2 ((Qaa l1_0 x48_2).f2).length c106_2, .slice A106_3 ((Qaa l1_0 x48_2).f3).length c106_3, .int .i64 ((Qaa l1_0 x48_2).f4), .bool ((Qaa l1_0 x48_2).f5)] 67 (0, 0)) (by (refine kb_ ?_); refine Qa1 (cs := #[.int .i64 ((Qaa l1_0 x48_2).f0), .int .i64 ((Qaa l1_0 x48_2).f1), .slice A106_2 ((Qaa l1_0 x48_2).f2).length c106_2, .slice A106_3 ((Qaa l1_0 x48_2).f3).length c106_3, .int .i64 ((Qaa l1_0 x48_2).f4), .bool false]) ?_ 5 _ rfl; (refine kb_ ?_); refine Qa1 (cs := #[.int .i64 ((Qaa l1_0 x48_2).f0), .int .i64 ((Qaa l1_0 x48_2).f1), .slice A106_2 ((Qaa l1_0 x48_2).f2).length c106_2, .slice A106_3 ((Qaa l1_0 x48_2).f3).length c106_3, .int .i64 0, .bool false]) ?_ 4 _ rfl; (refine kb_ ?_); refine Qa1 (cs := #[.int .i64 ((Qaa l1_0 x48_2).f0), .int .i64 ((Qaa l1_0 x48_2).f1), .slice A106_2 ((Qaa l1_0 x48_2).f2).length c106_2, .slice none 0 0, .int .i64 0, .bool false]) ?_ 3 _ rfl; (refine kb_ ?_); refine Qa1 (cs := #[.int .i64 ((Qaa l1_0 x48_2).f0), .int .i64 ((Qaa l1_0 x48_2).f1), .slice none 0 0, .slice none 0 0, .int .i64 0, .bool false]) ?_ 2 _ rfl; (refine kb_ ?_); refine Qa1 (cs := #[.int .i64 ((Qaa l1_0 x48_2).f0), .int .i64 0, .slice none 0 0, .slice none 0 0, .int .i64 0, .bool false]) ?_ 1 _ rfl; (refine kb_ ?_); refine Qa1 (cs := #[.int .i64 0, .int .i64 0, .slice none 0 0, .slice none 0 0, .int .i64 0, .bool false]) ?_ 0 _ rfl; (refine kb_ ?_); exact BK107.out) hb); have n3_ := Aside0.mk (Qac (bw_) hb); clear BK101; clear BK102; clear BK107; clear HB; have BK101 := n0_; have BK102 := n1_; have BK107 := n2_; have HB := n3_; clear n0_ n1_ n2_ n3_; (try clear hb); (try clear hb2); (try clear hk); (try clear hi)))
                 go_ret
                 exact ⟨by first | rfl | (simp [Qaf, Qag] <;> rfl) | (simp [*, Qaf, Qag] <;> rfl), bw_⟩
             · rw [if_neg c37] at H
               exact absurd H (by simp)
           · rw [if_neg c36] at H
             exact absurd H (by simp)
         · rw [if_neg c35] at H
           have c35b0 : decide (x48_2 < (l1_0.length : Int)) = false := decide_eq_false c35
           clear c35
           have H' := Aside0.mk H
           clear H
           have hnb68 := NB102_101.out
           have hnc68 := NB101_102.out
           have hcz69_0 : wr.cell? ⟨gb102, 0, none⟩ = some (.slice A1_0 l1_0.length c1_0) := (Qab BK102.out 0).trans rfl
           have hcz69_1 : wr.cell? ⟨gb102, 1, none⟩ = some (.int .i64 a1_1) := (Qab BK102.out 1).trans rfl
           have hcz69_2 : wr.cell? ⟨gb102, 2, none⟩ = some (.int .i64 a1_2) := (Qab BK102.out 2).trans rfl
           have hcz69_3 : wr.cell? ⟨gb102, 3, none⟩ = some (.slice A1_3 l1_3.length c1_3) := (Qab BK102.out 3).trans rfl
           have hcz69_4 : wr.cell? ⟨gb102, 4, none⟩ = some (.int .i64 a1_4) := (Qab BK102.out 4).trans rfl
           have hfz69_0 := Qad BK102.out 0
           have hfz69_1 := Qad BK102.out 1
           have hfz69_2 := Qad BK102.out 2
           have hfz69_3 := Qad BK102.out 3
           have hfz69_4 := Qad BK102.out 4
           go_wp2
           go_loopg [5, 8] k2 (fun kq v5 v8 w' => ∃ (x5_3 : Int) (x8_3 : Int), v5 = .int .i64 x5_3 ∧ v8 = .int .i64 x8_3 ∧ Aside0 (Qak.l1 kq x5_3 x8_3 l1_0 a1_1 a1_2 l1_3 a1_4 = some r) ∧ Aside0 (kq ≤ k2) ∧ Aside0 (w'.heap[gb101]? = some (.cells #[(.slice A0_0 l0_0.length c0_0)] 25 (0, 0))) ∧ Aside0 (w'.heap[gb102]? = some (.cells #[(.slice A1_0 l1_0.length c1_0), .int .i64 a1_1, .int .i64 a1_2, (.slice A1_3 l1_3.length c1_3), .int .i64 a1_4] 46 (0, 0))) ∧ Aside0 (Below w.heap.size w w'))
           case atStart => exact ⟨(x5_2), (a1_1), (by first | rfl | (simp; done) | (simp [*]; done)), (by first | rfl | (simp; done) | (simp [*]; done)), H', ⟨Nat.le_refl _⟩, ⟨by (refine kb_ ?_); exact BK101.out⟩, ⟨by (refine kb_ ?_); exact BK102.out⟩, ⟨bw_⟩⟩
           case round =>
            clear H'
            try clear c1
            try clear p1
            try clear q1
            try clear hx1
            try clear c2
            try clear p2
            try clear c3
            try clear c4
            try clear q4
            try clear c5
            try clear c6
            try clear p6
            try clear c7
            try clear c8
            try clear c9
            try clear c10
            try clear p10
            try clear q10
            try clear hx10
            try clear c11
            try clear c12
            try clear c19
            try clear c24
            try clear c25
            try clear c29
            try clear c32
            try clear c33
            try clear c35
            try clear c35b0
            try clear c36
            try clear c36b0
            try clear c37
            try clear c37b0
            try clear c39
            try clear q40
            try clear c41
            try clear c43
            try clear c44
            try clear c46
            try clear c52
            try clear c53
            try clear c55
            try clear c61
            try clear c62
            try clear c64
            try clear p64
            try clear c68
            try clear hcz13_0
            try clear hcz15_0
            try clear hcz15_1
            try clear hcz15_2
            try clear hcz15_3
            try clear hcz15_4
            try clear hcz16_0
            try clear hcz18_0
            try clear hcz18_1
            try clear hcz18_2
            try clear hcz18_3
            try clear hcz18_4
            try clear hcz20_0
            try clear hcz22_0
            try clear hcz22_1
            try clear hcz22_2
            try clear hcz22_3
            try clear hcz22_4
            try clear hcz23_0
            try clear hcz26_0
            try clear hcz28_0
            try clear hcz28_1
            try clear hcz28_2
            try clear hcz28_3
            try clear hcz28_4
            try clear hcz30_0
            try clear hcz34_0
            try clear hcz34_1
            try clear hcz34_2
            try clear hcz34_3
            try clear hcz34_4
            try clear hcz45_0
            try clear hcz45_1
            try clear hcz45_2
            try clear hcz45_3
            try clear hcz45_4
            try clear hcz45_5
            try clear hcz47_0
            try clear hcz48_0
            try clear hcz48_1
            try clear hcz48_2
            try clear hcz48_3
            try clear hcz48_4
            try clear hcz50_0
            try clear hcz50_1
            try clear hcz50_2
            try clear hcz50_3
            try clear hcz50_4
            try clear hcz50_5
            try clear hcz54_0
            try clear hcz54_1
            try clear hcz54_2
            try clear hcz54_3
            try clear hcz54_4
            try clear hcz54_5
            try clear hcz56_0
            try clear hcz57_0
            try clear hcz57_1
            try clear hcz57_2
            try clear hcz57_3
            try clear hcz57_4
            try clear hcz59_0
            try clear hcz59_1
            try clear hcz59_2
            try clear hcz59_3
            try clear hcz59_4
            try clear hcz59_5
            try clear hcz63_0
            try clear hcz63_1
            try clear hcz63_2
            try clear hcz63_3
            try clear hcz63_4
            try clear hcz63_5
            try clear hcz65_0
            try clear hcz66_0
            try clear hcz66_1
            try clear hcz66_2
            try clear hcz66_3
            try clear hcz66_4
            try clear hcz69_0
            try clear hcz69_1
            try clear hcz69_2
            try clear hcz69_3
            try clear hcz69_4
            try clear hfz13_0
            try clear hfz15_0
            try clear hfz15_1
            try clear hfz15_2
            try clear hfz15_3
            try clear hfz15_4
            try clear hfz16_0
            try clear hfz18_0
            try clear hfz18_1
            try clear hfz18_2
            try clear hfz18_3
            try clear hfz18_4
            try clear hfz20_0
            try clear hfz22_0
            try clear hfz22_1
            try clear hfz22_2
            try clear hfz22_3
            try clear hfz22_4
            try clear hfz23_0
            try clear hfz26_0
            try clear hfz28_0
            try clear hfz28_1
            try clear hfz28_2
            try clear hfz28_3
            try clear hfz28_4
            try clear hfz30_0
            try clear hfz34_0
            try clear hfz34_1
            try clear hfz34_2
            try clear hfz34_3
            try clear hfz34_4
            try clear hfz45_0
            try clear hfz45_1
            try clear hfz45_2
            try clear hfz45_3
            try clear hfz45_4
            try clear hfz45_5
            try clear hfz47_0
            try clear hfz48_0
            try clear hfz48_1
            try clear hfz48_2
            try clear hfz48_3
            try clear hfz48_4
            try clear hfz50_0
            try clear hfz50_1
            try clear hfz50_2
            try clear hfz50_3
            try clear hfz50_4
            try clear hfz50_5
            try clear hfz54_0
            try clear hfz54_1
            try clear hfz54_2
            try clear hfz54_3
            try clear hfz54_4
            try clear hfz54_5
            try clear hfz56_0
            try clear hfz57_0
            try clear hfz57_1
            try clear hfz57_2
            try clear hfz57_3
            try clear hfz57_4
            try clear hfz59_0
            try clear hfz59_1
            try clear hfz59_2
            try clear hfz59_3
            try clear hfz59_4
            try clear hfz59_5
            try clear hfz63_0
            try clear hfz63_1
            try clear hfz63_2
            try clear hfz63_3
            try clear hfz63_4
            try clear hfz63_5
            try clear hfz65_0
            try clear hfz66_0
            try clear hfz66_1
            try clear hfz66_2
            try clear hfz66_3
            try clear hfz66_4
            try clear hfz69_0
            try clear hfz69_1
            try clear hfz69_2
            try clear hfz69_3
            try clear hfz69_4
            try clear hx106_0
            try clear hx106_1
            try clear hx106_2
            try clear hx106_3
            try clear hx106_4
            try clear hx106_5
            try clear p106
            try clear p2
            try clear p6
            try clear q106
            obtain ⟨x5_3, x8_3, rfl, rfl, HA, HK3, BK101, BK102, HB⟩ := hrel
            cases gk with
            | zero => exact absurd HA.out (by simp [Qak.l1])
            | succ k3 =>
              have H := HA.out
              clear HA
              simp only [Qak.l1] at H
              by_cases c70 : x8_3 ≥ 0
              · rw [if_pos c70] at H
                have c70b0 : decide (0 ≤ x8_3) = true := decide_eq_true c70
                clear c70
                by_cases c71 : 0 ≤ x8_3
                · rw [if_pos c71] at H
                  have c71b0 : decide (0 ≤ x8_3) = true := decide_eq_true c71
                  clear c71
                  by_cases c72 : x8_3 < (l1_0.length : Int)
                  · rw [if_pos c72] at H
                    have c72b0 : decide (x8_3 < (l1_0.length : Int)) = true := decide_eq_true c72
                    clear c72
                    by_cases c73 : (wrap64 (x5_3 - 1)) < 0
                    · rw [if_pos c73] at H
                      have c73b0 : decide ((wrap64 (x5_3 - 1)) < 0) = true := decide_eq_true c73
                      clear c73
                      obtain rfl := Option.some.inj H
                      have hnb74 := NB102_101.out
                      have hnc74 := NB101_102.out
                      have hcz75_0 : wr.cell? ⟨gb102, 0, none⟩ = some (.slice A1_0 l1_0.length c1_0) := (Qab BK102.out 0).trans rfl
                      have hcz75_1 : wr.cell? ⟨gb102, 1, none⟩ = some (.int .i64 a1_1) := (Qab BK102.out 1).trans rfl
                      have hcz75_2 : wr.cell? ⟨gb102, 2, none⟩ = some (.int .i64 a1_2) := (Qab BK102.out 2).trans rfl
                      have hcz75_3 : wr.cell? ⟨gb102, 3, none⟩ = some (.slice A1_3 l1_3.length c1_3) := (Qab BK102.out 3).trans rfl
                      have hcz75_4 : wr.cell? ⟨gb102, 4, none⟩ = some (.int .i64 a1_4) := (Qab BK102.out 4).trans rfl
                      have hfz75_0 := Qad BK102.out 0
                      have hfz75_1 := Qad BK102.out 1
                      have hfz75_2 := Qad BK102.out 2
                      have hfz75_3 := Qad BK102.out 3
                      have hfz75_4 := Qad BK102.out 4
                      have p109 : 0 ≤ (x8_3 : Int) := of_decide_eq_true (by first | (with_reducible assumption) | assumption)
                      have q109 : x8_3 < (l1_0.length : Int) := of_decide_eq_true (by first | (with_reducible assumption) | assumption)
                      obtain ⟨ad109, A109_2, c109_2, A109_3, c109_3, e109, hx109_0, hx109_1, hx109_2, hx109_3, hx109_4, hx109_5, hl109_2, hi109_2, hl109_3, hi109_3⟩ := Qa9 HR1_0.out x8_3 p109 q109
                      cases e109
                      replace hx109_0 := pc_ HB hx109_0
                      replace hx109_1 := pc_ HB hx109_1
                      replace hx109_2 := pc_ HB hx109_2
                      replace hx109_3 := pc_ HB hx109_3
                      replace hx109_4 := pc_ HB hx109_4
                      replace hx109_5 := pc_ HB hx109_5
                      have HR109_2 := Aside0.mk hi109_2
                      have HC109_2 := Aside0.mk hl109_2
                      clear hi109_2 hl109_2
                      have HR109_3 := Aside0.mk hi109_3
                      have HC109_3 := Aside0.mk hl109_3
                      clear hi109_3 hl109_3
                      replace p109 := eq_true p109
                      replace q109 := eq_true q109
                      go_wp2_with (first | ((with_reducible refine Qaq (N := 9) rfl ?_); (try (refine Qbg (by rfl) ?_; dsimp only)); refine Qam ?hg (N := 9) ?hd (cs := #[.int .i64 0, .int .i64 0, .slice none 0 0, .slice none 0 0, .int .i64 0, .bool false]) (t := 67) ?hr ?_; (case hd => rfl); (case hg => rfl); (case hr => first | (go_simp; done) | (go_simp; rfl)); intro gb110 hg w76 hbox hb; have n0_ := Aside0.mk (bb_ BK101 hb); have n1_ := Aside0.mk (bb_ BK102 hb); have n2_ := Aside0.mk (Qac (bw_) hb); have n3_ := Aside0.mk (hbox); have n4_ := Aside0.mk ((gs_ hg bw_ : w.heap.size ≤ gb110)); have n5_ := Aside0.mk ((gs_ hg bw_ : w.heap.size ≤ gb110)); have n6_ := Aside0.mk ((nl_ hg BK101 : gb101 ≠ gb110)); have n7_ := Aside0.mk ((ng_ hg BK101 : gb110 ≠ gb101)); have n8_ := Aside0.mk ((nl_ hg BK102 : gb102 ≠ gb110)); have n9_ := Aside0.mk ((ng_ hg BK102 : gb110 ≠ gb102)); clear BK101; clear BK102; clear HB; have BK101 := n0_; have BK102 := n1_; have HB := n2_; have BK110 := n3_; have GW110 := n4_; have GE110 := n5_; have NB101_110 := n6_; have NB110_101 := n7_; have NB102_110 := n8_; have NB110_102 := n9_; clear n0_ n1_ n2_ n3_ n4_ n5_ n6_ n7_ n8_ n9_; clear hb hbox hg; have hnb77 := NB110_101.out; have hnc77 := NB101_110.out; have hnb78 := NB110_102.out; have hnc78 := NB102_110.out; obtain ⟨hcz79_0, hcz79_1, hcz79_2, hcz79_3, hcz79_4, hcz79_5, hfz79_0, hfz79_1, hfz79_2, hfz79_3, hfz79_4, hfz79_5⟩ := Qbl BK110.out))
                      go_ret
                      exact ⟨by first | rfl | (simp [Qaf, Qag] <;> rfl) | (simp [*, Qaf, Qag] <;> rfl), bw_⟩
                    · rw [if_neg c73] at H
                      have c73b0 : decide ((wrap64 (x5_3 - 1)) < 0) = false := decide_eq_false c73
                      clear c73
                      obtain ⟨bq80, hbq80⟩ : ∃ b_ : Bool, b_ = ((Qaa l1_0 x8_3).f5) := ⟨_, rfl⟩
                      replace H : (if bq80 = true then (some false) else (if x8_3 = a1_1 then (Qak.l1 k3 (wrap64 (x5_3 - 1)) ((Qaa l1_0 x8_3).f4) l1_0 a1_1 a1_2 l1_3 a1_4) else (if (((Qaa l1_0 x8_3).f3).length : Int) = 6 then (some false) else (Qak.l1 k3 (wrap64 (x5_3 - 1)) ((Qaa l1_0 x8_3).f4) l1_0 a1_1 a1_2 l1_3 a1_4)))) = some r := by rw [← hbq80] at H; exact H
                      have Nbq80 := Aside0.mk hbq80
                      clear hbq80
                      by_cases c81 : bq80 = true
                      · subst c81
                        have H1 : (some false) = some r := by rw [if_pos rfl] at H; exact H
                        clear H
                        have H := H1
                        clear H1
                        obtain rfl := Option.some.inj H
                        have hnb82 := NB102_101.out
                        have hnc82 := NB101_102.out
                        have hcz83_0 : wr.cell? ⟨gb102, 0, none⟩ = some (.slice A1_0 l1_0.length c1_0) := (Qab BK102.out 0).trans rfl
                        have hcz83_1 : wr.cell? ⟨gb102, 1, none⟩ = some (.int .i64 a1_1) := (Qab BK102.out 1).trans rfl
                        have hcz83_2 : wr.cell? ⟨gb102, 2, none⟩ = some (.int .i64 a1_2) := (Qab BK102.out 2).trans rfl
                        have hcz83_3 : wr.cell? ⟨gb102, 3, none⟩ = some (.slice A1_3 l1_3.length c1_3) := (Qab BK102.out 3).trans rfl
                        have hcz83_4 : wr.cell? ⟨gb102, 4, none⟩ = some (.int .i64 a1_4) := (Qab BK102.out 4).trans rfl
                        have hfz83_0 := Qad BK102.out 0
                        have hfz83_1 := Qad BK102.out 1
                        have hfz83_2 := Qad BK102.out 2
                        have hfz83_3 := Qad BK102.out 3
                        have hfz83_4 := Qad BK102.out 4
                        have p109 : 0 ≤ (x8_3 : Int) := of_decide_eq_true (by first | (with_reducible assumption) | assumption)
                        have q109 : x8_3 < (l1_0.length : Int) := of_decide_eq_true (by first | (with_reducible assumption) | assumption)
                        obtain ⟨ad109, A109_2, c109_2, A109_3, c109_3, e109, hx109_0, hx109_1, hx109_2, hx109_3, hx109_4, hx109_5, hl109_2, hi109_2, hl109_3, hi109_3⟩ := Qa9 HR1_0.out x8_3 p109 q109
                        (try rw [← Nbq80.out] at hx109_5)
                        (try (have hA_ := A38.out; rw [← Nbq80.out] at hA_; replace A38 := Aside0.mk hA_; clear hA_))
                        (try rw [← Nbq80.out] at hw109_5)
                        cases e109
                        replace hx109_0 := pc_ HB hx109_0
                        replace hx109_1 := pc_ HB hx109_1
                        replace hx109_2 := pc_ HB hx109_2
                        replace hx109_3 := pc_ HB hx109_3
                        replace hx109_4 := pc_ HB hx109_4
                        replace hx109_5 := pc_ HB hx109_5
                        have HR109_2 := Aside0.mk hi109_2
                        have HC109_2 := Aside0.mk hl109_2
                        clear hi109_2 hl109_2
                        have HR109_3 := Aside0.mk hi109_3
                        have HC109_3 := Aside0.mk hl109_3
                        clear hi109_3 hl109_3
                        replace p109 := eq_true p109
                        replace q109 := eq_true q109
                        go_wp2_with (first | ((with_reducible refine Qaq (N := 9) rfl ?_); (try (refine Qbg (by rfl) ?_; dsimp only)); refine Qam ?hg (N := 9) ?hd (cs := #[.int .i64 0, .int .i64 0, .slice none 0 0, .slice none 0 0, .int .i64 0, .bool false]) (t := 67) ?hr ?_; (case hd => rfl); (case hg => rfl); (case hr => first | (go_simp; done) | (go_simp; rfl)); intro gb110 hg w84 hbox hb; have n0_ := Aside0.mk (bb_ BK101 hb); have n1_ := Aside0.mk (bb_ BK102 hb); have n2_ := Aside0.mk (Qac (bw_) hb); have n3_ := Aside0.mk (hbox); have n4_ := Aside0.mk ((gs_ hg bw_ : w.heap.size ≤ gb110)); have n5_ := Aside0.mk ((gs_ hg bw_ : w.heap.size ≤ gb110)); have n6_ := Aside0.mk ((nl_ hg BK101 : gb101 ≠ gb110)); have n7_ := Aside0.mk ((ng_ hg BK101 : gb110 ≠ gb101)); have n8_ := Aside0.mk ((nl_ hg BK102 : gb102 ≠ gb110)); have n9_ := Aside0.mk ((ng_ hg BK102 : gb110 ≠ gb102)); clear BK101; clear BK102; clear HB; have BK101 := n0_; have BK102 := n1_; have HB := n2_; have BK110 := n3_; have GW110 := n4_; have GE110 := n5_; have NB101_110 := n6_; have NB110_101 := n7_; have NB102_110 := n8_; have NB110_102 := n9_; clear n0_ n1_ n2_ n3_ n4_ n5_ n6_ n7_ n8_ n9_; clear hb hbox hg; have hnb85 := NB110_101.out; have hnc85 := NB101_110.out; have hnb86 := NB110_102.out; have hnc86 := NB102_110.out; obtain ⟨hcz87_0, hcz87_1, hcz87_2, hcz87_3, hcz87_4, hcz87_5, hfz87_0, hfz87_1, hfz87_2, hfz87_3, hfz87_4, hfz87_5⟩ := Qbl BK110.out))
                        go_ret
                        exact ⟨by first | rfl | (simp [Qaf, Qag] <;> rfl) | (simp [*, Qaf, Qag] <;> rfl), bw_⟩
                      · replace c81 := Bool.eq_false_iff.mpr c81
                        subst c81
                        have H1 : (if x8_3 = a1_1 then (Qak.l1 k3 (wrap64 (x5_3 - 1)) ((Qaa l1_0 x8_3).f4) l1_0 a1_1 a1_2 l1_3 a1_4) else (if (((Qaa l1_0 x8_3).f3).length : Int) = 6 then (some false) else (Qak.l1 k3 (wrap64 (x5_3 - 1)) ((Qaa l1_0 x8_3).f4) l1_0 a1_1 a1_2 l1_3 a1_4))) = some r := by rw [if_neg (show ¬ (false = true) by decide)] at H; exact H
                        clear H
                        have H := H1
                        clear H1
                        by_cases c88 : x8_3 = a1_1
                        · rw [if_pos c88] at H
                          have c88b0 : (x8_3 == a1_1) = true := beq_iff_eq.mpr c88
                          have c88b1 : (x8_3 != a1_1) = false := bne_eq_false_iff_eq.mpr c88
                          clear c88
                          have H' := Aside0.mk H
                          clear H
                          have hnb89 := NB102_101.out
                          have hnc89 := NB101_102.out
                          have hcz90_0 : wr.cell? ⟨gb102, 0, none⟩ = some (.slice A1_0 l1_0.length c1_0) := (Qab BK102.out 0).trans rfl
                          have hcz90_1 : wr.cell? ⟨gb102, 1, none⟩ = some (.int .i64 a1_1) := (Qab BK102.out 1).trans rfl
                          have hcz90_2 : wr.cell? ⟨gb102, 2, none⟩ = some (.int .i64 a1_2) := (Qab BK102.out 2).trans rfl
                          have hcz90_3 : wr.cell? ⟨gb102, 3, none⟩ = some (.slice A1_3 l1_3.length c1_3) := (Qab BK102.out 3).trans rfl
                          have hcz90_4 : wr.cell? ⟨gb102, 4, none⟩ = some (.int .i64 a1_4) := (Qab BK102.out 4).trans rfl
                          have hfz90_0 := Qad BK102.out 0
                          have hfz90_1 := Qad BK102.out 1
                          have hfz90_2 := Qad BK102.out 2
                          have hfz90_3 := Qad BK102.out 3
                          have hfz90_4 := Qad BK102.out 4
                          have p109 : 0 ≤ (x8_3 : Int) := of_decide_eq_true (by first | (with_reducible assumption) | assumption)
                          have q109 : x8_3 < (l1_0.length : Int) := of_decide_eq_true (by first | (with_reducible assumption) | assumption)
                          obtain ⟨ad109, A109_2, c109_2, A109_3, c109_3, e109, hx109_0, hx109_1, hx109_2, hx109_3, hx109_4, hx109_5, hl109_2, hi109_2, hl109_3, hi109_3⟩ := Qa9 HR1_0.out x8_3 p109 q109
                          (try rw [← Nbq80.out] at hx109_5)
                          (try (have hA_ := A38.out; rw [← Nbq80.out] at hA_; replace A38 := Aside0.mk hA_; clear hA_))
                          (try rw [← Nbq80.out] at hw109_5)
                          cases e109
                          replace hx109_0 := pc_ HB hx109_0
                          replace hx109_1 := pc_ HB hx109_1
                          replace hx109_2 := pc_ HB hx109_2
                          replace hx109_3 := pc_ HB hx109_3
                          replace hx109_4 := pc_ HB hx109_4
                          replace hx109_5 := pc_ HB hx109_5
                          have HR109_2 := Aside0.mk hi109_2
                          have HC109_2 := Aside0.mk hl109_2
                          clear hi109_2 hl109_2
                          have HR109_3 := Aside0.mk hi109_3
                          have HC109_3 := Aside0.mk hl109_3
                          clear hi109_3 hl109_3
                          replace p109 := eq_true p109
                          replace q109 := eq_true q109
                          go_wp2_with (first | ((with_reducible refine Qaq (N := 9) rfl ?_); (try (refine Qbg (by rfl) ?_; dsimp only)); refine Qam ?hg (N := 9) ?hd (cs := #[.int .i64 0, .int .i64 0, .slice none 0 0, .slice none 0 0, .int .i64 0, .bool false]) (t := 67) ?hr ?_; (case hd => rfl); (case hg => rfl); (case hr => first | (go_simp; done) | (go_simp; rfl)); intro gb110 hg w91 hbox hb; have n0_ := Aside0.mk (bb_ BK101 hb); have n1_ := Aside0.mk (bb_ BK102 hb); have n2_ := Aside0.mk (Qac (bw_) hb); have n3_ := Aside0.mk (hbox); have n4_ := Aside0.mk ((gs_ hg bw_ : w.heap.size ≤ gb110)); have n5_ := Aside0.mk ((gs_ hg bw_ : w.heap.size ≤ gb110)); have n6_ := Aside0.mk ((nl_ hg BK101 : gb101 ≠ gb110)); have n7_ := Aside0.mk ((ng_ hg BK101 : gb110 ≠ gb101)); have n8_ := Aside0.mk ((nl_ hg BK102 : gb102 ≠ gb110)); have n9_ := Aside0.mk ((ng_ hg BK102 : gb110 ≠ gb102)); clear BK101; clear BK102; clear HB; have BK101 := n0_; have BK102 := n1_; have HB := n2_; have BK110 := n3_; have GW110 := n4_; have GE110 := n5_; have NB101_110 := n6_; have NB110_101 := n7_; have NB102_110 := n8_; have NB110_102 := n9_; clear n0_ n1_ n2_ n3_ n4_ n5_ n6_ n7_ n8_ n9_; clear hb hbox hg; have hnb92 := NB110_101.out; have hnc92 := NB101_110.out; have hnb93 := NB110_102.out; have hnc93 := NB102_110.out; obtain ⟨hcz94_0, hcz94_1, hcz94_2, hcz94_3, hcz94_4, hcz94_5, hfz94_0, hfz94_1, hfz94_2, hfz94_3, hfz94_4, hfz94_5⟩ := Qbl BK110.out; obtain ⟨hcz95_0, hcz95_1, hcz95_2, hcz95_3, hcz95_4, hfz95_0, hfz95_1, hfz95_2, hfz95_3, hfz95_4⟩ := Qbe BK102.out; have p111 : 0 ≤ (x8_3 : Int) := of_decide_eq_true (by first | (with_reducible assumption) | assumption); have q111 : x8_3 < (l1_0.length : Int) := of_decide_eq_true (by first | (with_reducible assumption) | assumption); obtain ⟨ad111, A111_2, c111_2, A111_3, c111_3, e111, hx111_0, hx111_1, hx111_2, hx111_3, hx111_4, hx111_5, hl111_2, hi111_2, hl111_3, hi111_3⟩ := Qa9 HR1_0.out x8_3 p111 q111; (try rw [← Nbq80.out] at hx111_5); obtain rfl : ad109 = ad111 := (by injection e111); have hn111_0 : ad109.block ≠ gb110 := Nat.ne_of_lt (Nat.lt_of_lt_of_le (by have := World.block_lt_of_cell? _ _ hx111_0; first | rwa [Qaj] at this | exact this) GW110.out); have hn111_1 : ad109.block ≠ gb110 := Nat.ne_of_lt (Nat.lt_of_lt_of_le (by have := World.block_lt_of_cell? _ _ hx111_0; first | rwa [Qaj] at this | exact this) GW110.out); have hn111_2 : ad109.block ≠ gb110 := Nat.ne_of_lt (Nat.lt_of_lt_of_le (by have := World.block_lt_of_cell? _ _ hx111_0; first | rwa [Qaj] at this | exact this) GW110.out); have hn111_3 : ad109.block ≠ gb110 := Nat.ne_of_lt (Nat.lt_of_lt_of_le (by have := World.block_lt_of_cell? _ _ hx111_0; first | rwa [Qaj] at this | exact this) GW110.out); have hn111_4 : ad109.block ≠ gb110 := Nat.ne_of_lt (Nat.lt_of_lt_of_le (by have := World.block_lt_of_cell? _ _ hx111_0; first | rwa [Qaj] at this | exact this) GW110.out); have hn111_5 : ad109.block ≠ gb110 := Nat.ne_of_lt (Nat.lt_of_lt_of_le (by have := World.block_lt_of_cell? _ _ hx111_0; first | rwa [Qaj] at this | exact this) GW110.out); replace hx111_0 := (HB.out.cell (World.block_lt_of_cell? w _ hx111_0)).trans hx111_0; replace hx111_1 := (HB.out.cell (World.block_lt_of_cell? w _ hx111_1)).trans hx111_1; replace hx111_2 := (HB.out.cell (World.block_lt_of_cell? w _ hx111_2)).trans hx111_2; replace hx111_3 := (HB.out.cell (World.block_lt_of_cell? w _ hx111_3)).trans hx111_3; replace hx111_4 := (HB.out.cell (World.block_lt_of_cell? w _ hx111_4)).trans hx111_4; replace hx111_5 := (HB.out.cell (World.block_lt_of_cell? w _ hx111_5)).trans hx111_5; have HR111_2 := Aside0.mk hi111_2; have HC111_2 := Aside0.mk hl111_2; clear hi111_2 hl111_2; have HR111_3 := Aside0.mk hi111_3; have HC111_3 := Aside0.mk hl111_3; clear hi111_3 hl111_3; replace hx111_0 := (QaO (p := ⟨gb110, 0, none⟩) (by first | (rw [Qaj]; exact hn111_0) | (show (Addr.add _ _).block ≠ _; rw [Qaj]; exact hn111_0) | exact hn111_0) (.int .i64 ((Qaa l1_0 x8_3).f0))).trans hx111_0; replace hx111_1 := (QaO (p := ⟨gb110, 0, none⟩) (by first | (rw [Qaj]; exact hn111_0) | (show (Addr.add _ _).block ≠ _; rw [Qaj]; exact hn111_0) | exact hn111_0) (.int .i64 ((Qaa l1_0 x8_3).f0))).trans hx111_1; replace hx111_2 := (QaO (p := ⟨gb110, 0, none⟩) (by first | (rw [Qaj]; exact hn111_0) | (show (Addr.add _ _).block ≠ _; rw [Qaj]; exact hn111_0) | exact hn111_0) (.int .i64 ((Qaa l1_0 x8_3).f0))).trans hx111_2; replace hx111_3 := (QaO (p := ⟨gb110, 0, none⟩) (by first | (rw [Qaj]; exact hn111_0) | (show (Addr.add _ _).block ≠ _; rw [Qaj]; exact hn111_0) | exact hn111_0) (.int .i64 ((Qaa l1_0 x8_3).f0))).trans hx111_3; replace hx111_4 := (QaO (p := ⟨gb110, 0, none⟩) (by first | (rw [Qaj]; exact hn111_0) | (show (Addr.add _ _).block ≠ _; rw [Qaj]; exact hn111_0) | exact hn111_0) (.int .i64 ((Qaa l1_0 x8_3).f0))).trans hx111_4; replace hx111_5 := (QaO (p := ⟨gb110, 0, none⟩) (by first | (rw [Qaj]; exact hn111_0) | (show (Addr.add _ _).block ≠ _; rw [Qaj]; exact hn111_0) | exact hn111_0) (.int .i64 ((Qaa l1_0 x8_3).f0))).trans hx111_5; replace hx111_0 := (QaO (p := ⟨gb110, 1, none⟩) (by first | (rw [Qaj]; exact hn111_1) | (show (Addr.add _ _).block ≠ _; rw [Qaj]; exact hn111_1) | exact hn111_1) (.int .i64 ((Qaa l1_0 x8_3).f1))).trans hx111_0; replace hx111_1 := (QaO (p := ⟨gb110, 1, none⟩) (by first | (rw [Qaj]; exact hn111_1) | (show (Addr.add _ _).block ≠ _; rw [Qaj]; exact hn111_1) | exact hn111_1) (.int .i64 ((Qaa l1_0 x8_3).f1))).trans hx111_1; replace hx111_2 := (QaO (p := ⟨gb110, 1, none⟩) (by first | (rw [Qaj]; exact hn111_1) | (show (Addr.add _ _).block ≠ _; rw [Qaj]; exact hn111_1) | exact hn111_1) (.int .i64 ((Qaa l1_0 x8_3).f1))).trans hx111_2; replace hx111_3 := (QaO (p := ⟨gb110, 1, none⟩) (by first | (rw [Qaj]; exact hn111_1) | (show (Addr.add _ _).block ≠ _; rw [Qaj]; exact hn111_1) | exact hn111_1) (.int .i64 ((Qaa l1_0 x8_3).f1))).trans hx111_3; replace hx111_4 := (QaO (p := ⟨gb110, 1, none⟩) (by first | (rw [Qaj]; exact hn111_1) | (show (Addr.add _ _).block ≠ _; rw [Qaj]; exact hn111_1) | exact hn111_1) (.int .i64 ((Qaa l1_0 x8_3).f1))).trans hx111_4; replace hx111_5 := (QaO (p := ⟨gb110, 1, none⟩) (by first | (rw [Qaj]; exact hn111_1) | (show (Addr.add _ _).block ≠ _; rw [Qaj]; exact hn111_1) | exact hn111_1) (.int .i64 ((Qaa l1_0 x8_3).f1))).trans hx111_5; replace hx111_0 := (QaO (p := ⟨gb110, 2, none⟩) (by first | (rw [Qaj]; exact hn111_2) | (show (Addr.add _ _).block ≠ _; rw [Qaj]; exact hn111_2) | exact hn111_2) (.slice A109_2 ((Qaa l1_0 x8_3).f2).length c109_2)).trans hx111_0; replace hx111_1 := (QaO (p := ⟨gb110, 2, none⟩) (by first | (rw [Qaj]; exact hn111_2) | (show (Addr.add _ _).block ≠ _; rw [Qaj]; exact hn111_2) | exact hn111_2) (.slice A109_2 ((Qaa l1_0 x8_3).f2).length c109_2)).trans hx111_1; replace hx111_2 := (QaO (p := ⟨gb110, 2, none⟩) (by first | (rw [Qaj]; exact hn111_2) | (show (Addr.add _ _).block ≠ _; rw [Qaj]; exact hn111_2) | exact hn111_2) (.slice A109_2 ((Qaa l1_0 x8_3).f2).length c109_2)).trans hx111_2; replace hx111_3 := (QaO (p := ⟨gb110, 2, none⟩) (by first | (rw [Qaj]; exact hn111_2) | (show (Addr.add _ _).block ≠ _; rw [Qaj]; exact hn111_2) | exact hn111_2) (.slice A109_2 ((Qaa l1_0 x8_3).f2).length c109_2)).trans hx111_3; replace hx111_4 := (QaO (p := ⟨gb110, 2, none⟩) (by first | (rw [Qaj]; exact hn111_2) | (show (Addr.add _ _).block ≠ _; rw [Qaj]; exact hn111_2) | exact hn111_2) (.slice A109_2 ((Qaa l1_0 x8_3).f2).length c109_2)).trans hx111_4; replace hx111_5 := (QaO (p := ⟨gb110, 2, none⟩) (by first | (rw [Qaj]; exact hn111_2) | (show (Addr.add _ _).block ≠ _; rw [Qaj]; exact hn111_2) | exact hn111_2) (.slice A109_2 ((Qaa l1_0 x8_3).f2).length c109_2)).trans hx111_5; replace hx111_0 := (QaO (p := ⟨gb110, 3, none⟩) (by first | (rw [Qaj]; exact hn111_3) | (show (Addr.add _ _).block ≠ _; rw [Qaj]; exact hn111_3) | exact hn111_3) (.slice A109_3 ((Qaa l1_0 x8_3).f3).length c109_3)).trans hx111_0; replace hx111_1 := (QaO (p := ⟨gb110, 3, none⟩) (by first | (rw [Qaj]; exact hn111_3) | (show (Addr.add _ _).block ≠ _; rw [Qaj]; exact hn111_3) | exact hn111_3) (.slice A109_3 ((Qaa l1_0 x8_3).f3).length c109_3)).trans hx111_1; replace hx111_2 := (QaO (p := ⟨gb110, 3, none⟩) (by first | (rw [Qaj]; exact hn111_3) | (show (Addr.add _ _).block ≠ _; rw [Qaj]; exact hn111_3) | exact hn111_3) (.slice A109_3 ((Qaa l1_0 x8_3).f3).length c109_3)).trans hx111_2; replace hx111_3 := (QaO (p := ⟨gb110, 3, none⟩) (by first | (rw [Qaj]; exact hn111_3) | (show (Addr.add _ _).block ≠ _; rw [Qaj]; exact hn111_3) | exact hn111_3) (.slice A109_3 ((Qaa l1_0 x8_3).f3).length c109_3)).trans hx111_3; replace hx111_4 := (QaO (p := ⟨gb110, 3, none⟩) (by first | (rw [Qaj]; exact hn111_3) | (show (Addr.add _ _).block ≠ _; rw [Qaj]; exact hn111_3) | exact hn111_3) (.slice A109_3 ((Qaa l1_0 x8_3).f3).length c109_3)).trans hx111_4; replace hx111_5 := (QaO (p := ⟨gb110, 3, none⟩) (by first | (rw [Qaj]; exact hn111_3) | (show (Addr.add _ _).block ≠ _; rw [Qaj]; exact hn111_3) | exact hn111_3) (.slice A109_3 ((Qaa l1_0 x8_3).f3).length c109_3)).trans hx111_5; replace hx111_0 := (QaO (p := ⟨gb110, 4, none⟩) (by first | (rw [Qaj]; exact hn111_4) | (show (Addr.add _ _).block ≠ _; rw [Qaj]; exact hn111_4) | exact hn111_4) (.int .i64 ((Qaa l1_0 x8_3).f4))).trans hx111_0; replace hx111_1 := (QaO (p := ⟨gb110, 4, none⟩) (by first | (rw [Qaj]; exact hn111_4) | (show (Addr.add _ _).block ≠ _; rw [Qaj]; exact hn111_4) | exact hn111_4) (.int .i64 ((Qaa l1_0 x8_3).f4))).trans hx111_1; replace hx111_2 := (QaO (p := ⟨gb110, 4, none⟩) (by first | (rw [Qaj]; exact hn111_4) | (show (Addr.add _ _).block ≠ _; rw [Qaj]; exact hn111_4) | exact hn111_4) (.int .i64 ((Qaa l1_0 x8_3).f4))).trans hx111_2; replace hx111_3 := (QaO (p := ⟨gb110, 4, none⟩) (by first | (rw [Qaj]; exact hn111_4) | (show (Addr.add _ _).block ≠ _; rw [Qaj]; exact hn111_4) | exact hn111_4) (.int .i64 ((Qaa l1_0 x8_3).f4))).trans hx111_3; replace hx111_4 := (QaO (p := ⟨gb110, 4, none⟩) (by first | (rw [Qaj]; exact hn111_4) | (show (Addr.add _ _).block ≠ _; rw [Qaj]; exact hn111_4) | exact hn111_4) (.int .i64 ((Qaa l1_0 x8_3).f4))).trans hx111_4; replace hx111_5 := (QaO (p := ⟨gb110, 4, none⟩) (by first | (rw [Qaj]; exact hn111_4) | (show (Addr.add _ _).block ≠ _; rw [Qaj]; exact hn111_4) | exact hn111_4) (.int .i64 ((Qaa l1_0 x8_3).f4))).trans hx111_5; replace hx111_0 := (QaO (p := ⟨gb110, 5, none⟩) (by first | (rw [Qaj]; exact hn111_5) | (show (Addr.add _ _).block ≠ _; rw [Qaj]; exact hn111_5) | exact hn111_5) (.bool false)).trans hx111_0; replace hx111_1 := (QaO (p := ⟨gb110, 5, none⟩) (by first | (rw [Qaj]; exact hn111_5) | (show (Addr.add _ _).block ≠ _; rw [Qaj]; exact hn111_5) | exact hn111_5) (.bool false)).trans hx111_1; replace hx111_2 := (QaO (p := ⟨gb110, 5, none⟩) (by first | (rw [Qaj]; exact hn111_5) | (show (Addr.add _ _).block ≠ _; rw [Qaj]; exact hn111_5) | exact hn111_5) (.bool false)).trans hx111_2; replace hx111_3 := (QaO (p := ⟨gb110, 5, none⟩) (by first | (rw [Qaj]; exact hn111_5) | (show (Addr.add _ _).block ≠ _; rw [Qaj]; exact hn111_5) | exact hn111_5) (.bool false)).trans hx111_3; replace hx111_4 := (QaO (p := ⟨gb110, 5, none⟩) (by first | (rw [Qaj]; exact hn111_5) | (show (Addr.add _ _).block ≠ _; rw [Qaj]; exact hn111_5) | exact hn111_5) (.bool false)).trans hx111_4; replace hx111_5 := (QaO (p := ⟨gb110, 5, none⟩) (by first | (rw [Qaj]; exact hn111_5) | (show (Addr.add _ _).block ≠ _; rw [Qaj]; exact hn111_5) | exact hn111_5) (.bool false)).trans hx111_5; clear hn111_0; clear hn111_1; clear hn111_2; clear hn111_3; clear hn111_4; clear hn111_5; replace p111 := eq_true p111; replace q111 := eq_true q111))
                          go_roundg k3
                          case measure => have := HJ2.out; have := HK2.out; have := HK3.out; omega
                          case rel => exact ⟨(wrap64 (x5_3 - 1)), ((Qaa l1_0 x8_3).f4), (by first | rfl | (simp; done) | (simp [*]; done)), (by first | rfl | (simp; done) | (simp [*]; done)), H', ⟨by have := HJ2.out; have := HK2.out; have := HK3.out; omega⟩, ⟨by (refine kb_ ?_); refine Qar ?_ NB101_110.out _; (refine kb_ ?_); refine Qar ?_ NB101_110.out _; (refine kb_ ?_); refine Qar ?_ NB101_110.out _; (refine kb_ ?_); refine Qar ?_ NB101_110.out _; (refine kb_ ?_); refine Qar ?_ NB101_110.out _; (refine kb_ ?_); refine Qar ?_ NB101_110.out _; (refine kb_ ?_); exact BK101.out⟩, ⟨by (refine kb_ ?_); refine Qar ?_ NB102_110.out _; (refine kb_ ?_); refine Qar ?_ NB102_110.out _; (refine kb_ ?_); refine Qar ?_ NB102_110.out _; (refine kb_ ?_); refine Qar ?_ NB102_110.out _; (refine kb_ ?_); refine Qar ?_ NB102_110.out _; (refine kb_ ?_); refine Qar ?_ NB102_110.out _; (refine kb_ ?_); exact BK102.out⟩, ⟨bw_⟩⟩
                        · rw [if_neg c88] at H
                          have c88b0 : (x8_3 == a1_1) = false := beq_eq_false_iff_ne.mpr c88
                          have c88b1 : (x8_3 != a1_1) = true := bne_iff_ne.mpr c88
                          by_cases c96 : (((Qaa l1_0 x8_3).f3).length : Int) = 6
                          · rw [if_pos c96] at H
                            have c96b0 : ((((Qaa l1_0 x8_3).f3).length : Int) == 6) = true := beq_iff_eq.mpr c96
                            have c96b1 : ((((Qaa l1_0 x8_3).f3).length : Int) != 6) = false := bne_eq_false_iff_eq.mpr c96
                            clear c96
                            obtain rfl := Option.some.inj H
                            have hnb97 := NB102_101.out
                            have hnc97 := NB101_102.out
                            have hcz98_0 : wr.cell? ⟨gb102, 0, none⟩ = some (.slice A1_0 l1_0.length c1_0) := (Qab BK102.out 0).trans rfl
                            have hcz98_1 : wr.cell? ⟨gb102, 1, none⟩ = some (.int .i64 a1_1) := (Qab BK102.out 1).trans rfl
                            have hcz98_2 : wr.cell? ⟨gb102, 2, none⟩ = some (.int .i64 a1_2) := (Qab BK102.out 2).trans rfl
                            have hcz98_3 : wr.cell? ⟨gb102, 3, none⟩ = some (.slice A1_3 l1_3.length c1_3) := (Qab BK102.out 3).trans rfl
                            have hcz98_4 : wr.cell? ⟨gb102, 4, none⟩ = some (.int .i64 a1_4) := (Qab BK102.out 4).trans rfl
                            have hfz98_0 := Qad BK102.out 0
                            have hfz98_1 := Qad BK102.out 1
                            have hfz98_2 := Qad BK102.out 2
                            have hfz98_3 := Qad BK102.out 3
                            have hfz98_4 := Qad BK102.out 4
                            have p109 : 0 ≤ (x8_3 : Int) := of_decide_eq_true (by first | (with_reducible assumption) | assumption)
                            have q109 : x8_3 < (l1_0.length : Int) := of_decide_eq_true (by first | (with_reducible assumption) | assumption)
                            obtain ⟨ad109, A109_2, c109_2, A109_3, c109_3, e109, hx109_0, hx109_1, hx109_2, hx109_3, hx109_4, hx109_5, hl109_2, hi109_2, hl109_3, hi109_3⟩ := Qa9 HR1_0.out x8_3 p109 q109
                            (try rw [← Nbq80.out] at hx109_5)
                            (try (have hA_ := A38.out; rw [← Nbq80.out] at hA_; replace A38 := Aside0.mk hA_; clear hA_))
                            (try rw [← Nbq80.out] at hw109_5)
                            cases e109
                            replace hx109_0 := pc_ HB hx109_0
                            replace hx109_1 := pc_ HB hx109_1
                            replace hx109_2 := pc_ HB hx109_2
                            replace hx109_3 := pc_ HB hx109_3
                            replace hx109_4 := pc_ HB hx109_4
                            replace hx109_5 := pc_ HB hx109_5
                            have HR109_2 := Aside0.mk hi109_2
                            have HC109_2 := Aside0.mk hl109_2
                            clear hi109_2 hl109_2
                            have HR109_3 := Aside0.mk hi109_3
                            have HC109_3 := Aside0.mk hl109_3
                            clear hi109_3 hl109_3
                            replace p109 := eq_true p109
                            replace q109 := eq_true q109
                            go_wp2_with (first | ((with_reducible refine Qaq (N := 9) rfl ?_); (try (refine Qbg (by rfl) ?_; dsimp only)); refine Qam ?hg (N := 9) ?hd (cs := #[.int .i64 0, .int .i64 0, .slice none 0 0, .slice none 0 0, .int .i64 0, .bool false]) (t := 67) ?hr ?_; (case hd => rfl); (case hg => rfl); (case hr => first | (go_simp; done) | (go_simp; rfl)); intro gb110 hg w99 hbox hb; have n0_ := Aside0.mk (bb_ BK101 hb); have n1_ := Aside0.mk (bb_ BK102 hb); have n2_ := Aside0.mk (Qac (bw_) hb); have n3_ := Aside0.mk (hbox); have n4_ := Aside0.mk ((gs_ hg bw_ : w.heap.size ≤ gb110)); have n5_ := Aside0.mk ((gs_ hg bw_ : w.heap.size ≤ gb110)); have n6_ := Aside0.mk ((nl_ hg BK101 : gb101 ≠ gb110)); have n7_ := Aside0.mk ((ng_ hg BK101 : gb110 ≠ gb101)); have n8_ := Aside0.mk ((nl_ hg BK102 : gb102 ≠ gb110)); have n9_ := Aside0.mk ((ng_ hg BK102 : gb110 ≠ gb102)); clear BK101; clear BK102; clear HB; have BK101 := n0_; have BK102 := n1_; have HB := n2_; have BK110 := n3_; have GW110 := n4_; have GE110 := n5_; have NB101_110 := n6_; have NB110_101 := n7_; have NB102_110 := n8_; have NB110_102 := n9_; clear n0_ n1_ n2_ n3_ n4_ n5_ n6_ n7_ n8_ n9_; clear hb hbox hg; have hnb100 := NB110_101.out; have hnc100 := NB101_110.out; have hnb101 := NB110_102.out; have hnc101 := NB102_110.out; obtain ⟨hcz102_0, hcz102_1, hcz102_2, hcz102_3, hcz102_4, hcz102_5, hfz102_0, hfz102_1, hfz102_2, hfz102_3, hfz102_4, hfz102_5⟩ := Qbl BK110.out; obtain ⟨hcz103_0, hcz103_1, hcz103_2, hcz103_3, hcz103_4, hfz103_0, hfz103_1, hfz103_2, hfz103_3, hfz103_4⟩ := Qbe BK102.out))
                            go_ret
                            exact ⟨by first | rfl | (simp [Qaf, Qag] <;> rfl) | (simp [*, Qaf, Qag] <;> rfl), bw_⟩
                          · rw [if_neg c96] at H
                            have c96b0 : ((((Qaa l1_0 x8_3).f3).length : Int) == 6) = false := beq_eq_false_iff_ne.mpr c96
                            have c96b1 : ((((Qaa l1_0 x8_3).f3).length : Int) != 6) = true := bne_iff_ne.mpr c96
                            have H' := Aside0.mk H
                            clear H
                            have hnb104 := NB102_101.out
                            have hnc104 := NB101_102.out
                            have hcz105_0 : wr.cell? ⟨gb102, 0, none⟩ = some (.slice A1_0 l1_0.length c1_0) := (Qab BK102.out 0).trans rfl
                            have hcz105_1 : wr.cell? ⟨gb102, 1, none⟩ = some (.int .i64 a1_1) := (Qab BK102.out 1).trans rfl
                            have hcz105_2 : wr.cell? ⟨gb102, 2, none⟩ = some (.int .i64 a1_2) := (Qab BK102.out 2).trans rfl
                            have hcz105_3 : wr.cell? ⟨gb102, 3, none⟩ = some (.slice A1_3 l1_3.length c1_3) := (Qab BK102.out 3).trans rfl
                            have hcz105_4 : wr.cell? ⟨gb102, 4, none⟩ = some (.int .i64 a1_4) := (Qab BK102.out 4).trans rfl
                            have hfz105_0 := Qad BK102.out 0
                            have hfz105_1 := Qad BK102.out 1
                            have hfz105_2 := Qad BK102.out 2
                            have hfz105_3 := Qad BK102.out 3
                            have hfz105_4 := Qad BK102.out 4
                            have p109 : 0 ≤ (x8_3 : Int) := of_decide_eq_true (by first | (with_reducible assumption) | assumption)
                            have q109 : x8_3 < (l1_0.length : Int) := of_decide_eq_true (by first | (with_reducible assumption) | assumption)
                            obtain ⟨ad109, A109_2, c109_2, A109_3, c109_3, e109, hx109_0, hx109_1, hx109_2, hx109_3, hx109_4, hx109_5, hl109_2, hi109_2, hl109_3, hi109_3⟩ := Qa9 HR1_0.out x8_3 p109 q109
                            (try rw [← Nbq80.out] at hx109_5)
                            (try (have hA_ := A38.out; rw [← Nbq80.out] at hA_; replace A38 := Aside0.mk hA_; clear hA_))
                            (try rw [← Nbq80.out] at hw109_5)
                            cases e109
                            replace hx109_0 := pc_ HB hx109_0
                            replace hx109_1 := pc_ HB hx109_1
                            replace hx109_2 := pc_ HB hx109_2
                            replace hx109_3 := pc_ HB hx109_3
                            replace hx109_4 := pc_ HB hx109_4
                            replace hx109_5 := pc_ HB hx109_5
                            have HR109_2 := Aside0.mk hi109_2
                            have HC109_2 := Aside0.mk hl109_2
                            clear hi109_2 hl109_2
                            have HR109_3 := Aside0.mk hi109_3
                            have HC109_3 := Aside0.mk hl109_3
                            clear hi109_3 hl109_3
                            replace p109 := eq_true p109
                            replace q109 := eq_true q109
                            go_wp2_with (first | ((with_reducible refine Qaq (N := 9) rfl ?_); (try (refine Qbg (by rfl) ?_; dsimp only)); refine Qam ?hg (N := 9) ?hd (cs := #[.int .i64 0, .int .i64 0, .slice none 0 0, .slice none 0 0, .int .i64 0, .bool false]) (t := 67) ?hr ?_; (case hd => rfl); (case hg => rfl); (case hr => first | (go_simp; done) | (go_simp; rfl)); intro gb110 hg w106 hbox hb; have n0_ := Aside0.mk (bb_ BK101 hb); have n1_ := Aside0.mk (bb_ BK102 hb); have n2_ := Aside0.mk (Qac (bw_) hb); have n3_ := Aside0.mk (hbox); have n4_ := Aside0.mk ((gs_ hg bw_ : w.heap.size ≤ gb110)); have n5_ := Aside0.mk ((gs_ hg bw_ : w.heap.size ≤ gb110)); have n6_ := Aside0.mk ((nl_ hg BK101 : gb101 ≠ gb110)); have n7_ := Aside0.mk ((ng_ hg BK101 : gb110 ≠ gb101)); have n8_ := Aside0.mk ((nl_ hg BK102 : gb102 ≠ gb110)); have n9_ := Aside0.mk ((ng_ hg BK102 : gb110 ≠ gb102)); clear BK101; clear BK102; clear HB; have BK101 := n0_; have BK102 := n1_; have HB := n2_; have BK110 := n3_; have GW110 := n4_; have GE110 := n5_; have NB101_110 := n6_; have NB110_101 := n7_; have NB102_110 := n8_; have NB110_102 := n9_; clear n0_ n1_ n2_ n3_ n4_ n5_ n6_ n7_ n8_ n9_; clear hb hbox hg; have hnb107 := NB110_101.out; have hnc107 := NB101_110.out; have hnb108 := NB110_102.out; have hnc108 := NB102_110.out; obtain ⟨hcz109_0, hcz109_1, hcz109_2, hcz109_3, hcz109_4, hcz109_5, hfz109_0, hfz109_1, hfz109_2, hfz109_3, hfz109_4, hfz109_5⟩ := Qbl BK110.out; obtain ⟨hcz110_0, hcz110_1, hcz110_2, hcz110_3, hcz110_4, hfz110_0, hfz110_1, hfz110_2, hfz110_3, hfz110_4⟩ := Qbe BK102.out; have p112 : 0 ≤ (x8_3 : Int) := of_decide_eq_true (by first | (with_reducible assumption) | assumption); have q112 : x8_3 < (l1_0.length : Int) := of_decide_eq_true (by first | (with_reducible assumption) | assumption); obtain ⟨ad112, A112_2, c112_2, A112_3, c112_3, e112, hx112_0, hx112_1, hx112_2, hx112_3, hx112_4, hx112_5, hl112_2, hi112_2, hl112_3, hi112_3⟩ := Qa9 HR1_0.out x8_3 p112 q112; (try rw [← Nbq80.out] at hx112_5); obtain rfl : ad109 = ad112 := (by injection e112); have hn112_0 : ad109.block ≠ gb110 := Nat.ne_of_lt (Nat.lt_of_lt_of_le (by have := World.block_lt_of_cell? _ _ hx112_0; first | rwa [Qaj] at this | exact this) GW110.out); have hn112_1 : ad109.block ≠ gb110 := Nat.ne_of_lt (Nat.lt_of_lt_of_le (by have := World.block_lt_of_cell? _ _ hx112_0; first | rwa [Qaj] at this | exact this) GW110.out); have hn112_2 : ad109.block ≠ gb110 := Nat.ne_of_lt (Nat.lt_of_lt_of_le (by have := World.block_lt_of_cell? _ _ hx112_0; first | rwa [Qaj] at this | exact this) GW110.out); have hn112_3 : ad109.block ≠ gb110 := Nat.ne_of_lt (Nat.lt_of_lt_of_le (by have := World.block_lt_of_cell? _ _ hx112_0; first | rwa [Qaj] at this | exact this) GW110.out); have hn112_4 : ad109.block ≠ gb110 := Nat.ne_of_lt (Nat.lt_of_lt_of_le (by have := World.block_lt_of_cell? _ _ hx112_0; first | rwa [Qaj] at this | exact this) GW110.out); have hn112_5 : ad109.block ≠ gb110 := Nat.ne_of_lt (Nat.lt_of_lt_of_le (by have := World.block_lt_of_cell? _ _ hx112_0; first | rwa [Qaj] at this | exact this) GW110.out); replace hx112_0 := (HB.out.cell (World.block_lt_of_cell? w _ hx112_0)).trans hx112_0; replace hx112_1 := (HB.out.cell (World.block_lt_of_cell? w _ hx112_1)).trans hx112_1; replace hx112_2 := (HB.out.cell (World.block_lt_of_cell? w _ hx112_2)).trans hx112_2; replace hx112_3 := (HB.out.cell (World.block_lt_of_cell? w _ hx112_3)).trans hx112_3; replace hx112_4 := (HB.out.cell (World.block_lt_of_cell? w _ hx112_4)).trans hx112_4; replace hx112_5 := (HB.out.cell (World.block_lt_of_cell? w _ hx112_5)).trans hx112_5; have HR112_2 := Aside0.mk hi112_2; have HC112_2 := Aside0.mk hl112_2; clear hi112_2 hl112_2; have HR112_3 := Aside0.mk hi112_3; have HC112_3 := Aside0.mk hl112_3; clear hi112_3 hl112_3; replace hx112_0 := (QaO (p := ⟨gb110, 0, none⟩) (by first | (rw [Qaj]; exact hn112_0) | (show (Addr.add _ _).block ≠ _; rw [Qaj]; exact hn112_0) | exact hn112_0) (.int .i64 ((Qaa l1_0 x8_3).f0))).trans hx112_0; replace hx112_1 := (QaO (p := ⟨gb110, 0, none⟩) (by first | (rw [Qaj]; exact hn112_0) | (show (Addr.add _ _).block ≠ _; rw [Qaj]; exact hn112_0) | exact hn112_0) (.int .i64 ((Qaa l1_0 x8_3).f0))).trans hx112_1; replace hx112_2 := (QaO (p := ⟨gb110, 0, none⟩) (by first | (rw [Qaj]; exact hn112_0) | (show (Addr.add _ _).block ≠ _; rw [Qaj]; exact hn112_0) | exact hn112_0) (.int .i64 ((Qaa l1_0 x8_3).f0))).trans hx112_2; replace hx112_3 := (QaO (p := ⟨gb110, 0, none⟩) (by first | (rw [Qaj]; exact hn112_0) | (show (Addr.add _ _).block ≠ _; rw [Qaj]; exact hn112_0) | exact hn112_0) (.int .i64 ((Qaa l1_0 x8_3).f0))).trans hx112_3; replace hx112_4 := (QaO (p := ⟨gb110, 0, none⟩) (by first | (rw [Qaj]; exact hn112_0) | (show (Addr.add _ _).block ≠ _; rw [Qaj]; exact hn112_0) | exact hn112_0) (.int .i64 ((Qaa l1_0 x8_3).f0))).trans hx112_4; replace hx112_5 := (QaO (p := ⟨gb110, 0, none⟩) (by first | (rw [Qaj]; exact hn112_0) | (show (Addr.add _ _).block ≠ _; rw [Qaj]; exact hn112_0) | exact hn112_0) (.int .i64 ((Qaa l1_0 x8_3).f0))).trans hx112_5; replace hx112_0 := (QaO (p := ⟨gb110, 1, none⟩) (by first | (rw [Qaj]; exact hn112_1) | (show (Addr.add _ _).block ≠ _; rw [Qaj]; exact hn112_1) | exact hn112_1) (.int .i64 ((Qaa l1_0 x8_3).f1))).trans hx112_0; replace hx112_1 := (QaO (p := ⟨gb110, 1, none⟩) (by first | (rw [Qaj]; exact hn112_1) | (show (Addr.add _ _).block ≠ _; rw [Qaj]; exact hn112_1) | exact hn112_1) (.int .i64 ((Qaa l1_0 x8_3).f1))).trans hx112_1; replace hx112_2 := (QaO (p := ⟨gb110, 1, none⟩) (by first | (rw [Qaj]; exact hn112_1) | (show (Addr.add _ _).block ≠ _; rw [Qaj]; exact hn112_1) | exact hn112_1) (.int .i64 ((Qaa l1_0 x8_3).f1))).trans hx112_2; replace hx112_3 := (QaO (p := ⟨gb110, 1, none⟩) (by first | (rw [Qaj]; exact hn112_1) | (show (Addr.add _ _).block ≠ _; rw [Qaj]; exact hn112_1) | exact hn112_1) (.int .i64 ((Qaa l1_0 x8_3).f1))).trans hx112_3; replace hx112_4 := (QaO (p := ⟨gb110, 1, none⟩) (by first | (rw [Qaj]; exact hn112_1) | (show (Addr.add _ _).block ≠ _; rw [Qaj]; exact hn112_1) | exact hn112_1) (.int .i64 ((Qaa l1_0 x8_3).f1))).trans hx112_4; replace hx112_5 := (QaO (p := ⟨gb110, 1, none⟩) (by first | (rw [Qaj]; exact hn112_1) | (show (Addr.add _ _).block ≠ _; rw [Qaj]; exact hn112_1) | exact hn112_1) (.int .i64 ((Qaa l1_0 x8_3).f1))).trans hx112_5; replace hx112_0 := (QaO (p := ⟨gb110, 2, none⟩) (by first | (rw [Qaj]; exact hn112_2) | (show (Addr.add _ _).block ≠ _; rw [Qaj]; exact hn112_2) | exact hn112_2) (.slice A109_2 ((Qaa l1_0 x8_3).f2).length c109_2)).trans hx112_0; replace hx112_1 := (QaO (p := ⟨gb110, 2, none⟩) (by first | (rw [Qaj]; exact hn112_2) | (show (Addr.add _ _).block ≠ _; rw [Qaj]; exact hn112_2) | exact hn112_2) (.slice A109_2 ((Qaa l1_0 x8_3).f2).length c109_2)).trans hx112_1; replace hx112_2 := (QaO (p := ⟨gb110, 2, none⟩) (by first | (rw [Qaj]; exact hn112_2) | (show (Addr.add _ _).block ≠ _; rw [Qaj]; exact hn112_2) | exact hn112_2) (.slice A109_2 ((Qaa l1_0 x8_3).f2).length c109_2)).trans hx112_2; replace hx112_3 := (QaO (p := ⟨gb110, 2, none⟩) (by first | (rw [Qaj]; exact hn112_2) | (show (Addr.add _ _).block ≠ _; rw [Qaj]; exact hn112_2) | exact hn112_2) (.slice A109_2 ((Qaa l1_0 x8_3).f2).length c109_2)).trans hx112_3; replace hx112_4 := (QaO (p := ⟨gb110, 2, none⟩) (by first | (rw [Qaj]; exact hn112_2) | (show (Addr.add _ _).block ≠ _; rw [Qaj]; exact hn112_2) | exact hn112_2) (.slice A109_2 ((Qaa l1_0 x8_3).f2).length c109_2)).trans hx112_4; replace hx112_5 := (QaO (p := ⟨gb110, 2, none⟩) (by first | (rw [Qaj]; exact hn112_2) | (show (Addr.add _ _).block ≠ _; rw [Qaj]; exact hn112_2) | exact hn112_2) (.slice A109_2 ((Qaa l1_0 x8_3).f2).length c109_2)).trans hx112_5; replace hx112_0 := (QaO (p := ⟨gb110, 3, none⟩) (by first | (rw [Qaj]; exact hn112_3) | (show (Addr.add _ _).block ≠ _; rw [Qaj]; exact hn112_3) | exact hn112_3) (.slice A109_3 ((Qaa l1_0 x8_3).f3).length c109_3)).trans hx112_0; replace hx112_1 := (QaO (p := ⟨gb110, 3, none⟩) (by first | (rw [Qaj]; exact hn112_3) | (show (Addr.add _ _).block ≠ _; rw [Qaj]; exact hn112_3) | exact hn112_3) (.slice A109_3 ((Qaa l1_0 x8_3).f3).length c109_3)).trans hx112_1; replace hx112_2 := (QaO (p := ⟨gb110, 3, none⟩) (by first | (rw [Qaj]; exact hn112_3) | (show (Addr.add _ _).block ≠ _; rw [Qaj]; exact hn112_3) | exact hn112_3) (.slice A109_3 ((Qaa l1_0 x8_3).f3).length c109_3)).trans hx112_2; replace hx112_3 := (QaO (p := ⟨gb110, 3, none⟩) (by first | (rw [Qaj]; exact hn112_3) | (show (Addr.add _ _).block ≠ _; rw [Qaj]; exact hn112_3) | exact hn112_3) (.slice A109_3 ((Qaa l1_0 x8_3).f3).length c109_3)).trans hx112_3; replace hx112_4 := (QaO (p := ⟨gb110, 3, none⟩) (by first | (rw [Qaj]; exact hn112_3) | (show (Addr.add _ _).block ≠ _; rw [Qaj]; exact hn112_3) | exact hn112_3) (.slice A109_3 ((Qaa l1_0 x8_3).f3).length c109_3)).trans hx112_4; replace hx112_5 := (QaO (p := ⟨gb110, 3, none⟩) (by first | (rw [Qaj]; exact hn112_3) | (show (Addr.add _ _).block ≠ _; rw [Qaj]; exact hn112_3) | exact hn112_3) (.slice A109_3 ((Qaa l1_0 x8_3).f3).length c109_3)).trans hx112_5; replace hx112_0 := (QaO (p := ⟨gb110, 4, none⟩) (by first | (rw [Qaj]; exact hn112_4) | (show (Addr.add _ _).block ≠ _; rw [Qaj]; exact hn112_4) | exact hn112_4) (.int .i64 ((Qaa l1_0 x8_3).f4))).trans hx112_0; replace hx112_1 := (QaO (p := ⟨gb110, 4, none⟩) (by first | (rw [Qaj]; exact hn112_4) | (show (Addr.add _ _).block ≠ _; rw [Qaj]; exact hn112_4) | exact hn112_4) (.int .i64 ((Qaa l1_0 x8_3).f4))).trans hx112_1; replace hx112_2 := (QaO (p := ⟨gb110, 4, none⟩) (by first | (rw [Qaj]; exact hn112_4) | (show (Addr.add _ _).block ≠ _; rw [Qaj]; exact hn112_4) | exact hn112_4) (.int .i64 ((Qaa l1_0 x8_3).f4))).trans hx112_2; replace hx112_3 := (QaO (p := ⟨gb110, 4, none⟩) (by first | (rw [Qaj]; exact hn112_4) | (show (Addr.add _ _).block ≠ _; rw [Qaj]; exact hn112_4) | exact hn112_4) (.int .i64 ((Qaa l1_0 x8_3).f4))).trans hx112_3; replace hx112_4 := (QaO (p := ⟨gb110, 4, none⟩) (by first | (rw [Qaj]; exact hn112_4) | (show (Addr.add _ _).block ≠ _; rw [Qaj]; exact hn112_4) | exact hn112_4) (.int .i64 ((Qaa l1_0 x8_3).f4))).trans hx112_4; replace hx112_5 := (QaO (p := ⟨gb110, 4, none⟩) (by first | (rw [Qaj]; exact hn112_4) | (show (Addr.add _ _).block ≠ _; rw [Qaj]; exact hn112_4) | exact hn112_4) (.int .i64 ((Qaa l1_0 x8_3).f4))).trans hx112_5; replace hx112_0 := (QaO (p := ⟨gb110, 5, none⟩) (by first | (rw [Qaj]; exact hn112_5) | (show (Addr.add _ _).block ≠ _; rw [Qaj]; exact hn112_5) | exact hn112_5) (.bool false)).trans hx112_0; replace hx112_1 := (QaO (p := ⟨gb110, 5, none⟩) (by first | (rw [Qaj]; exact hn112_5) | (show (Addr.add _ _).block ≠ _; rw [Qaj]; exact hn112_5) | exact hn112_5) (.bool false)).trans hx112_1; replace hx112_2 := (QaO (p := ⟨gb110, 5, none⟩) (by first | (rw [Qaj]; exact hn112_5) | (show (Addr.add _ _).block ≠ _; rw [Qaj]; exact hn112_5) | exact hn112_5) (.bool false)).trans hx112_2; replace hx112_3 := (QaO (p := ⟨gb110, 5, none⟩) (by first | (rw [Qaj]; exact hn112_5) | (show (Addr.add _ _).block ≠ _; rw [Qaj]; exact hn112_5) | exact hn112_5) (.bool false)).trans hx112_3; replace hx112_4 := (QaO (p := ⟨gb110, 5, none⟩) (by first | (rw [Qaj]; exact hn112_5) | (show (Addr.add _ _).block ≠ _; rw [Qaj]; exact hn112_5) | exact hn112_5) (.bool false)).trans hx112_4; replace hx112_5 := (QaO (p := ⟨gb110, 5, none⟩) (by first | (rw [Qaj]; exact hn112_5) | (show (Addr.add _ _).block ≠ _; rw [Qaj]; exact hn112_5) | exact hn112_5) (.bool false)).trans hx112_5; clear hn112_0; clear hn112_1; clear hn112_2; clear hn112_3; clear hn112_4; clear hn112_5; replace p112 := eq_true p112; replace q112 := eq_true q112))
                            go_roundg k3
                            case measure => have := HJ2.out; have := HK2.out; have := HK3.out; omega
                            case rel => exact ⟨(wrap64 (x5_3 - 1)), ((Qaa l1_0 x8_3).f4), (by first | rfl | (simp; done) | (simp [*]; done)), (by first | rfl | (simp; done) | (simp [*]; done)), H', ⟨by have := HJ2.out; have := HK2.out; have := HK3.out; omega⟩, ⟨by (refine kb_ ?_); refine Qar ?_ NB101_110.out _; (refine kb_ ?_); refine Qar ?_ NB101_110.out _; (refine kb_ ?_); refine Qar ?_ NB101_110.out _; (refine kb_ ?_); refine Qar ?_ NB101_110.out _; (refine kb_ ?_); refine Qar ?_ NB101_110.out _; (refine kb_ ?_); refine Qar ?_ NB101_110.out _; (refine kb_ ?_); exact BK101.out⟩, ⟨by (refine kb_ ?_); refine Qar ?_ NB102_110.out _; (refine kb_ ?_); refine Qar ?_ NB102_110.out _; (refine kb_ ?_); refine Qar ?_ NB102_110.out _; (refine kb_ ?_); refine Qar ?_ NB102_110.out _; (refine kb_ ?_); refine Qar ?_ NB102_110.out _; (refine kb_ ?_); refine Qar ?_ NB102_110.out _; (refine kb_ ?_); exact BK102.out⟩, ⟨bw_⟩⟩
                  · rw [if_neg c72] at H
                    exact absurd H (by simp)
                · rw [if_neg c71] at H
                  exact absurd H (by simp)
              · rw [if_neg c70] at H
                have c70b0 : decide (0 ≤ x8_3) = false := decide_eq_false c70
                clear c70
                obtain rfl := Option.some.inj H
                go_wp2
                go_ret
                exact ⟨by first | rfl | (simp [Qaf, Qag] <;> rfl) | (simp [*, Qaf, Qag] <;> rfl), bw_⟩
end Go.Proofs.Ytabcijheemjplaa.G
