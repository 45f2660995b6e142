import Derived.Test.YtabcijheemjplaaK6ca9bb5a
import Derived.Test.YtabcijheemjplaaK92cd82ad
import Derived.Laws.EntriesVeiled
import Derived.IntWalk
import Derived.Deep.RegionHeld3
import Derived.Shelf.Abstract
import Derived.Test.YtabcijheemjplaaK0afb331e
import Derived.Test.YtabcijheemjplaaK17151cc0
namespace Go.Proofs.Ytabcijheemjplaa.G
open Go.RowKit Go.Proofs.YtabcijheemjplaaW.PrintWords Go.Proofs.YtabcijheemjplaaW.PrintLast Go.Proofs.YtabcijheemjplaaW.PrintMore
attribute [local go_sem] QaQ QaR Qa3 Qa4 QaJ QaK QaS QaT
set_option linter.unusedVariables false
set_option linter.unusedSimpArgs false
def Qb8 (nl : Nat) (y : Int) (no : Nat) (k a : Int) : Bool :=
 if 1 ≤ k ∧ k ≤ 18 then (if mG k.toNat = none then decide (a = 0) else decide (0 ≤ a ∧ a ≤ mMost k.toNat nl y no - 1)) else false
theorem most_range (n n0 n2 : Nat) (y : Int) (h0 : 0 ≤ y) (h1 : y ≤ 4) (a : n0 ≤ 9223372036854775807) (b : n2 ≤ 9223372036854775807) : 0 ≤ mMost n n0 y n2 ∧ mMost n n0 y n2 ≤ 9223372036854775807 := by
 unfold mMost
 by_cases hn : n < 19
 · have h : n = 0 ∨ n = 1 ∨ n = 2 ∨ n = 3 ∨ n = 4 ∨ n = 5 ∨ n = 6 ∨ n = 7 ∨ n = 8 ∨ n = 9 ∨ n = 10 ∨ n = 11 ∨ n = 12 ∨ n = 13 ∨ n = 14 ∨ n = 15 ∨ n = 16 ∨ n = 17 ∨ n = 18 := by omega
   rcases h with rfl | rfl | rfl | rfl | rfl | rfl | rfl | rfl | rfl | rfl | rfl | rfl | rfl | rfl | rfl | rfl | rfl | rfl | rfl <;> simp <;> omega
 · rw [List.getD_eq_getElem?_getD, List.getElem?_eq_none (by simp; omega)]
   simp
set_option maxHeartbeats 1000000 in
theorem in_any (n lo hi : Int) (w : World) : Calls Try.prog 62 #[.int .i64 n, .int .i64 lo, .int .i64 hi] w fun e w' => e = .returned (.bool (decide (lo ≤ n ∧ n ≤ hi))) ∧ w = w' := by
 by_cases h1 : lo ≤ n
 · have d1 : decide (lo ≤ n) = true := decide_eq_true h1
   by_cases h2 : n ≤ hi
   · have d2 : decide (n ≤ hi) = true := decide_eq_true h2
     have d : decide (lo ≤ n ∧ n ≤ hi) = true := decide_eq_true ⟨h1, h2⟩
     rw [d]
     clear h1 h2 d
     go_enter Try.func62, Try.ntmps62
     go_wp2
     go_ret
     exact ⟨rfl, rfl⟩
   · have d2 : decide (n ≤ hi) = false := decide_eq_false h2
     have d : decide (lo ≤ n ∧ n ≤ hi) = false := decide_eq_false (fun h => h2 h.2)
     rw [d]
     clear h1 h2 d
     go_enter Try.func62, Try.ntmps62
     go_wp2
     go_ret
     exact ⟨rfl, rfl⟩
 · have d1 : decide (lo ≤ n) = false := decide_eq_false h1
   have d : decide (lo ≤ n ∧ n ≤ hi) = false := decide_eq_false (fun h => h1 h.1)
   rw [d]
   clear h1 d
   go_enter Try.func62, Try.ntmps62
   go_wp2
   go_ret
   exact ⟨rfl, rfl⟩
theorem mG_enters {n g : Nat} {o : Option Nat} (h1 : 1 ≤ n) (h2 : n ≤ 18) (hG : mG n = some (g, o)) : ∀ args w, (callFunc g args).run Try.prog w = .ok (.enter g args) w := by
 rcases mG_cases h1 h2 hG with rfl | rfl | rfl | rfl | rfl | rfl | rfl | rfl <;> (simp only [mG, List.getD_cons_succ, List.getD_cons_zero, Option.some.injEq, Prod.mk.injEq] at hG; obtain ⟨rfl, rfl⟩ := hG)
 · exact enters_of Try.func143 (by kernel_rfl) rfl
 · exact enters_of Try.func144 (by kernel_rfl) rfl
 · exact enters_of Try.func144 (by kernel_rfl) rfl
 · exact enters_of Try.func145 (by kernel_rfl) rfl
 · exact enters_of Try.func145 (by kernel_rfl) rfl
 · exact enters_of Try.func146 (by kernel_rfl) rfl
 · exact enters_of Try.func143 (by kernel_rfl) rfl
 · exact enters_of Try.func143 (by kernel_rfl) rfl
theorem eql_nilFunc : ∀ w, (binOp .eql 128 .nilFunc .nilFunc).run Try.prog w = .ok (.bool true) w := fun _ => by kernel_rfl
theorem eql_func (g : Nat) (lb : Array Value) : ∀ w, (binOp .eql 128 (.func (.func g) #[] lb) .nilFunc).run Try.prog w = .ok (.bool false) w := fun _ => by kernel_rfl
theorem three_boxes {w w1 : World} {o1 o2 o3 : Obj} (h : Below (((w.alloc o1).alloc o2).alloc o3).heap.size (((w.alloc o1).alloc o2).alloc o3) w1) : w1.heap[w.heap.size]? = some o1 ∧ w1.heap[w.heap.size + 1]? = some o2 ∧ w1.heap[w.heap.size + 2]? = some o3 ∧ Below w.heap.size w w1 ∧ w.heap.size + 2 < w1.heap.size := by
 have h1 : (((w.alloc o1).alloc o2).alloc o3).heap[w.heap.size]? = some o1 := by
  show (((w.heap.push o1).push o2).push o3)[_]? = _
  simp only [Array.getElem?_push, Array.size_push]
  repeat (first | rw [if_pos trivial] | rw [if_pos (by omega)] | rw [if_neg (by omega)])
 have h2 : (((w.alloc o1).alloc o2).alloc o3).heap[w.heap.size + 1]? = some o2 := by
  show (((w.heap.push o1).push o2).push o3)[_]? = _
  simp only [Array.getElem?_push, Array.size_push]
  repeat (first | rw [if_pos trivial] | rw [if_pos (by omega)] | rw [if_neg (by omega)])
 have h3 : (((w.alloc o1).alloc o2).alloc o3).heap[w.heap.size + 2]? = some o3 := by
  show (((w.heap.push o1).push o2).push o3)[_]? = _
  simp only [Array.getElem?_push, Array.size_push]
  repeat (first | rw [if_pos trivial] | rw [if_pos (by omega)] | rw [if_neg (by omega)])
 refine ⟨(h.block _ (Qbr h1)).trans h1, (h.block _ (Qbr h2)).trans h2, (h.block _ (Qbr h3)).trans h3, ?_, ?_⟩
 · exact Qap (Qal (Qal (Qal (Below.refl _ _) _) _) _) h
 · have := h.size
   simp at this
   omega
set_option maxHeartbeats 2000000 in
set_option maxRecDepth 100000 in
theorem opok_no (k a : Int) (A0 : Option Addr) (n0 c0 : Nat) (x y : Int) (A2 : Option Addr) (n2 c2 : Nat) (w : World) (h : ¬ (1 ≤ k ∧ k ≤ 18)) :
 Calls Try.prog 67 #[.agg #[.int .i64 k, .int .i64 a], .agg #[.slice A0 n0 c0], .agg #[.int .i64 x, .int .i64 y, .slice A2 n2 c2]] w fun e w' => e = .returned (.bool false) ∧ Below w.heap.size w w' := by
 have H := Aside0.mk h
 clear h
 go_enter Try.func67, Try.ntmps67
 go_wp2_with (go_at_call 109; refine (mannerOf_no _ _ H.out).mono ?_; rintro e w1 ⟨rfl, hb⟩; obtain ⟨hb1, hb2, hb3, hb4, hb5⟩ := three_boxes hb; have HB := Aside0.mk hb4; clear hb hb4)
 go_ret
 exact ⟨rfl, by repeat (first | exact HB.out | apply Qal)⟩
set_option maxHeartbeats 2000000 in
set_option maxRecDepth 100000 in
theorem opok_nil (k a : Int) (A0 : Option Addr) (n0 c0 : Nat) (x y : Int) (A2 : Option Addr) (n2 c2 : Nat) (w : World) (h1 : 1 ≤ k) (h2 : k ≤ 18) (hF : mG k.toNat = none) :
 Calls Try.prog 67 #[.agg #[.int .i64 k, .int .i64 a], .agg #[.slice A0 n0 c0], .agg #[.int .i64 x, .int .i64 y, .slice A2 n2 c2]] w fun e w' => e = .returned (.bool (decide (a = 0))) ∧ Below w.heap.size w w' := by
 have H1 := Aside0.mk h1
 have H2 := Aside0.mk h2
 have HF := Aside0.mk hF
 clear h1 h2 hF
 have hq := eql_nilFunc
 go_enter Try.func67, Try.ntmps67
 go_wp2_with (go_at_call 109; refine (mannerOf_nil _ _ H1.out H2.out HF.out).mono ?_; rintro e w1 ⟨b, rfl, hm, hge, hb⟩; obtain ⟨hb1, hb2, hb3, hb4, hb5⟩ := three_boxes hb; have HB := Aside0.mk hb4; have hlt1 : w.heap.size < w1.heap.size := Nat.lt_of_succ_lt (Nat.lt_of_succ_lt hb5); clear hb hb4 hm hge; have z1 : w1.cell? ⟨w.heap.size, 1, none⟩ = some (.int .i64 a) := Qaf hb1 1)
 go_ret
 exact ⟨rfl, by repeat (first | exact HB.out | apply Qal)⟩
set_option maxHeartbeats 4000000 in
set_option maxRecDepth 100000 in
theorem opok_fn (k a : Int) (A0 : Option Addr) (n0 c0 : Nat) (x y : Int) (A2 : Option Addr) (n2 c2 : Nat) (w : World) (g : Nat) (o : Option Nat) (h1 : 1 ≤ k) (h2 : k ≤ 18) (hF : mG k.toNat = some (g, o)) (hy0 : 0 ≤ y) (hy1 : y ≤ 4) (hn0 : n0 ≤ 9223372036854775807) (hn2 : n2 ≤ 9223372036854775807) :
 Calls Try.prog 67 #[.agg #[.int .i64 k, .int .i64 a], .agg #[.slice A0 n0 c0], .agg #[.int .i64 x, .int .i64 y, .slice A2 n2 c2]] w fun e w' => e = .returned (.bool (decide (0 ≤ a ∧ a ≤ mMost k.toNat n0 y n2 - 1))) ∧ Below w.heap.size w w' := by
 have H1 := Aside0.mk h1
 have H2 := Aside0.mk h2
 have HF := Aside0.mk hF
 have eg := mG_enters (n := k.toNat) (by omega) (by omega) hF
 have hM := most_range k.toNat n0 n2 y hy0 hy1 hn0 hn2
 clear h1 h2 hF hn0 hn2 hy0 hy1
 have hq := eql_func g
 go_enter Try.func67, Try.ntmps67
 go_wp2_with (go_at_call 109; refine (mannerOf_fn _ _ _ _ H1.out H2.out HF.out).mono ?_; rintro e w1 ⟨b, rfl, hm, hge, hb⟩; obtain ⟨hb1, hb2, hb3, hb4, hb5⟩ := three_boxes hb; have HB := Aside0.mk hb4; have HM := Aside0.mk hm; have hlt1 : w.heap.size < w1.heap.size := Nat.lt_of_succ_lt (Nat.lt_of_succ_lt hb5); have hlt2 : w.heap.size + 1 < w1.heap.size := Nat.lt_of_succ_lt hb5; clear hb hb4 hm hge; have z1 : w1.cell? ⟨w.heap.size, 1, none⟩ = some (.int .i64 a) := Qaf hb1 1; have z2 : w1.cell? ⟨w.heap.size + 1, 0, none⟩ = some (.slice A0 n0 c0) := Qaf hb2 0; have z3 : w1.cell? ⟨w.heap.size + 1 + 1, 0, none⟩ = some (.int .i64 x) := Qaf hb3 0; have z4 : w1.cell? ⟨w.heap.size + 1 + 1, 1, none⟩ = some (.int .i64 y) := Qaf hb3 1; have z5 : w1.cell? ⟨w.heap.size + 1 + 1, 2, none⟩ = some (.slice A2 n2 c2) := Qaf hb3 2)
 go_region_held3 (fun w' => w'.cell? ⟨w.heap.size, 1, none⟩ = some (.int .i64 a) ∧ w'.cell? ⟨w1.heap.size, 4, none⟩ = some (.func (.func g) #[] (mLb b o)) ∧ w'.cell? ⟨w.heap.size + 1, 0, none⟩ = some (.slice A0 n0 c0) ∧ w'.cell? ⟨w.heap.size + 1 + 1, 0, none⟩ = some (.int .i64 x) ∧ w'.cell? ⟨w.heap.size + 1 + 1, 1, none⟩ = some (.int .i64 y) ∧ w'.cell? ⟨w.heap.size + 1 + 1, 2, none⟩ = some (.slice A2 n2 c2))
  (first | go_keep | exact ⟨y1, y2, y3, y4, y5, y6⟩)
  (first | (go_at_fn g; refine (most_any (n := k.toNat) (o := o) (by exact HM.out.kept (by repeat (first | exact Below.refl _ _ | apply Qal | apply Qar | apply Qav))) (by have := H1.out; omega) (by have := H2.out; omega) HF.out A0 n0 c0 x y A2 n2 c2).mono ?_; rintro e w2 ⟨rfl, hb2⟩; have y1 := QaI hb2 (a := ⟨w.heap.size, 1, none⟩) (v := .int .i64 a) (by go_keep); have y2 := QaI hb2 (a := ⟨w1.heap.size, 4, none⟩) (v := .func (.func g) #[] (mLb b o)) (by go_keep); have y3 := QaI hb2 (a := ⟨w.heap.size + 1, 0, none⟩) (v := .slice A0 n0 c0) (by go_keep); have y4 := QaI hb2 (a := ⟨w.heap.size + 1 + 1, 0, none⟩) (v := .int .i64 x) (by go_keep); have y5 := QaI hb2 (a := ⟨w.heap.size + 1 + 1, 1, none⟩) (v := .int .i64 y) (by go_keep); have y6 := QaI hb2 (a := ⟨w.heap.size + 1 + 1, 2, none⟩) (v := .slice A2 n2 c2) (by go_keep); have HB2 := Aside0.mk (Qap (by repeat (first | exact HB.out | apply Qal | apply Qar | apply Qav) : Below w.heap.size w _) hb2); clear hb2) | (go_at_call 62; refine (in_any _ _ _ _).mono ?_; rintro e w3 ⟨rfl, rfl⟩))
 go_wp2
 go_ret
 refine ⟨?_, by repeat (first | exact HB2.out | apply Qal | apply Qar | apply Qav)⟩
 show Ending.returned (.bool (decide (0 ≤ a) && decide (a ≤ IntKind.i64.wrap (mMost k.toNat n0 y n2 - 1)))) = _
 rw [IntWalk.i64_in _ (by omega), Bool.decide_and]
theorem opok_calls (k a : Int) (A0 : Option Addr) (n0 c0 : Nat) (x y : Int) (A2 : Option Addr) (n2 c2 : Nat) (w : World) (hy0 : 0 ≤ y) (hy1 : y ≤ 4) (hn0 : n0 ≤ 9223372036854775807) (hn2 : n2 ≤ 9223372036854775807) :
 Calls Try.prog 67 #[.agg #[.int .i64 k, .int .i64 a], .agg #[.slice A0 n0 c0], .agg #[.int .i64 x, .int .i64 y, .slice A2 n2 c2]] w fun e w' => e = .returned (.bool (Qb8 n0 y n2 k a)) ∧ Below w.heap.size w w' := by
 unfold Qb8
 by_cases hk : 1 ≤ k ∧ k ≤ 18
 · rw [if_pos hk]
   cases hg : mG k.toNat with
   | none => rw [if_pos rfl]; exact opok_nil k a A0 n0 c0 x y A2 n2 c2 w hk.1 hk.2 hg
   | some go => rw [if_neg (by simp)]; exact opok_fn k a A0 n0 c0 x y A2 n2 c2 w go.1 go.2 hk.1 hk.2 hg hy0 hy1 hn0 hn2
 · rw [if_neg hk]
   exact opok_no k a A0 n0 c0 x y A2 n2 c2 w hk
end Go.Proofs.Ytabcijheemjplaa.G
namespace Go.Proofs.Ytabcijheemjplaa.G
open Go.RowKit Go.Proofs.YtabcijheemjplaaW.PrintWords Go.Proofs.YtabcijheemjplaaW.PrintLast Go.Proofs.YtabcijheemjplaaW.PrintMore
attribute [local go_sem] QaQ QaR Qa3 Qa4 QaJ QaK QaS QaT
set_option linter.unusedVariables false
set_option linter.unusedSimpArgs false
def QaZ (nl : Nat) (m : Qae) : Bool :=
 if 0 ≤ m.f0 ∧ m.f0 ≤ 2 ∧ m.f0 ≤ m.f1 ∧ m.f1 ≤ 4 ∧ m.f2.length ≤ 14 then m.f2.any (fun op => !Qb8 nl m.f1 m.f2.length op.f0 op.f1) else true
def QbB (l : List Qae) : Bool :=
 if 1 ≤ l.length ∧ l.length ≤ 4 ∧ (Qaa l 0).f0 = 0 then !(l.any (QaZ l.length)) else false
set_option maxHeartbeats 2000000 in
set_option maxRecDepth 100000 in
theorem progok11 (k a : Int) (bp bm : Nat) (A0 : Option Addr) (n0 c0 : Nat) (x y : Int) (A2 : Option Addr) (n2 c2 : Nat) (w : World) (hy0 : 0 ≤ y) (hy1 : y ≤ 4) (hn0 : n0 ≤ 9223372036854775807) (hn2 : n2 ≤ 9223372036854775807)
 (hp : w.cell? ⟨bp, 0, none⟩ = some (.slice A0 n0 c0)) (h0 : w.cell? ⟨bm, 0, none⟩ = some (.int .i64 x)) (h1 : w.cell? ⟨bm, 1, none⟩ = some (.int .i64 y)) (h2 : w.cell? ⟨bm, 2, none⟩ = some (.slice A2 n2 c2)) :
 Calls Try.prog 66 #[.agg #[.int .i64 k, .int .i64 a], .pointer (some ⟨bp, 0, none⟩), .pointer (some ⟨bm, 0, none⟩)] w fun e w' => e = .returned (.bool (!Qb8 n0 y n2 k a)) ∧ Below w.heap.size w w' := by
 have l1 : bp < w.heap.size := World.block_lt_of_cell? w _ hp
 have l2 : bm < w.heap.size := World.block_lt_of_cell? w _ h0
 have Y0 := Aside0.mk hy0
 have Y1 := Aside0.mk hy1
 have N0 := Aside0.mk hn0
 have N2 := Aside0.mk hn2
 clear hy0 hy1 hn0 hn2
 go_enter Try.func66, Try.ntmps66
 go_wp2_with (go_at_call 67; refine (opok_calls k a A0 n0 c0 x y A2 n2 c2 _ Y0.out Y1.out N0.out N2.out).mono ?_; rintro e w1 ⟨rfl, hb⟩; have HB := Aside0.mk (Qap (Qal (Below.refl _ _) _) hb); clear hb)
 go_ret
 exact ⟨rfl, HB.out⟩
theorem progok1_enters : ∀ args w, (callFunc 64 args).run Try.prog w = .ok (.enter 64 args) w := enters_of Try.func64 (by kernel_rfl) rfl
theorem progok11_enters : ∀ args w, (callFunc 66 args).run Try.prog w = .ok (.enter 66 args) w := enters_of Try.func66 (by kernel_rfl) rfl
set_option maxHeartbeats 2000000 in
set_option maxRecDepth 100000 in
theorem progok1_out (m : Qae) (bp : Nat) (A2 : Option Addr) (c2 : Nat) (w : World) (h : ¬ (0 ≤ m.f0 ∧ m.f0 ≤ 2 ∧ m.f0 ≤ m.f1 ∧ m.f1 ≤ 4 ∧ m.f2.length ≤ 14)) :
 Calls Try.prog 64 #[.agg #[.int .i64 m.f0, .int .i64 m.f1, .slice A2 m.f2.length c2], .pointer (some ⟨bp, 0, none⟩)] w fun e w' => e = .returned (.bool true) ∧ Below w.heap.size w w' := by
 obtain ⟨x, y, l⟩ := m
 simp only at h ⊢
 by_cases c1 : 0 ≤ x
 · have d1 := decide_eq_true c1
   by_cases c2' : x ≤ 2
   · have d2 := decide_eq_true c2'
     by_cases c3 : x ≤ y
     · have d3 := decide_eq_true c3
       by_cases c4 : y ≤ 4
       · have d4 := decide_eq_true c4
         have d5 : decide (14 < (l.length : Int)) = true := decide_eq_true (by omega)
         have d6 : decide (14 < l.length) = true := decide_eq_true (by omega)
         clear c1 c2' c3 c4 h
         go_enter Try.func64, Try.ntmps64
         go_wp2_with (go_at_call 62; refine (in_any _ _ _ _).mono ?_; rintro e w3 ⟨rfl, rfl⟩)
         go_ret
         exact ⟨rfl, Qal (Below.refl _ _) _⟩
       · have d4 := decide_eq_false c4
         clear c1 c2' c3 c4 h
         go_enter Try.func64, Try.ntmps64
         go_wp2_with (go_at_call 62; refine (in_any _ _ _ _).mono ?_; rintro e w3 ⟨rfl, rfl⟩)
         go_ret
         exact ⟨rfl, Qal (Below.refl _ _) _⟩
     · have d3 := decide_eq_false c3
       clear c1 c2' c3 h
       go_enter Try.func64, Try.ntmps64
       go_wp2_with (go_at_call 62; refine (in_any _ _ _ _).mono ?_; rintro e w3 ⟨rfl, rfl⟩)
       go_ret
       exact ⟨rfl, Qal (Below.refl _ _) _⟩
   · have d2 := decide_eq_false c2'
     clear c1 c2' h
     go_enter Try.func64, Try.ntmps64
     go_wp2_with (go_at_call 62; refine (in_any _ _ _ _).mono ?_; rintro e w3 ⟨rfl, rfl⟩)
     go_ret
     exact ⟨rfl, Qal (Below.refl _ _) _⟩
 · have d1 := decide_eq_false c1
   clear c1 h
   go_enter Try.func64, Try.ntmps64
   go_wp2_with (go_at_call 62; refine (in_any _ _ _ _).mono ?_; rintro e w3 ⟨rfl, rfl⟩)
   go_ret
   exact ⟨rfl, Qal (Below.refl _ _) _⟩
set_option maxHeartbeats 2000000 in
set_option maxRecDepth 100000 in
theorem progok1_in (x y : Int) (l : List Qac) (bp : Nat) (A0 : Option Addr) (n0 c0 : Nat) (A2 : Option Addr) (c2 : Nat) (w : World) (h1 : 0 ≤ x) (h2 : x ≤ 2) (h3 : x ≤ y) (h4 : y ≤ 4) (h5 : l.length ≤ 14) (hn0 : n0 ≤ 9223372036854775807)
 (hp : w.cell? ⟨bp, 0, none⟩ = some (.slice A0 n0 c0)) (hr : Kd.C QaB w A2 l.length l) :
 Calls Try.prog 64 #[.agg #[.int .i64 x, .int .i64 y, .slice A2 l.length c2], .pointer (some ⟨bp, 0, none⟩)] w fun e w' => e = .returned (.bool (l.any (fun op => !Qb8 n0 y l.length op.f0 op.f1))) ∧ Below w.heap.size w w' := by
 have d1 := decide_eq_true h1
 have d2 := decide_eq_true h2
 have d3 := decide_eq_true h3
 have d4 := decide_eq_true h4
 have d5 : decide (14 < (l.length : Int)) = false := decide_eq_false (by omega)
 have d6 : decide (14 < l.length) = false := decide_eq_false (by omega)
 have L1 := Aside0.mk (World.block_lt_of_cell? w _ hp : bp < w.heap.size)
 have HP := Aside0.mk hp
 have HR := Aside0.mk hr
 have Y0 := Aside0.mk (show 0 ≤ y by omega)
 have Y1 := Aside0.mk h4
 have N0 := Aside0.mk hn0
 have N2 := Aside0.mk (show l.length ≤ 9223372036854775807 by omega)
 have BK := Aside0.mk (blk_new w (.cells #[.int .i64 x, .int .i64 y, .slice A2 l.length c2] 34))
 clear h1 h2 h3 h4 h5 hp hr hn0
 go_enter Try.func64, Try.ntmps64
 go_wp2_with (first | (go_at_call 62; refine (in_any _ _ _ _).mono ?_; rintro e w3 ⟨rfl, rfl⟩) | (go_at_call 65; refine (contains_impl_Op 66 _ progok11_enters (fun op => !Qb8 n0 y l.length op.f0 op.f1) _ _ _ _ ?hc ?hq).mono ?_; (case hc => exact Kd.C_alloc HR.out _); (case hq => intro W hW o cs ho hK; obtain rfl := Qck hK; exact (progok11 o.f0 o.f1 bp w.heap.size A0 n0 c0 x y A2 l.length c2 W Y0.out Y1.out N0.out N2.out (QaI (Qap (Qal (Below.refl _ _) _) hW) HP.out) (Qaf ((hW.block _ (Qbr BK.out)).trans BK.out) 0) (Qaf ((hW.block _ (Qbr BK.out)).trans BK.out) 1) (Qaf ((hW.block _ (Qbr BK.out)).trans BK.out) 2)).mono fun e w' ⟨he, hb⟩ => ⟨he, Qa_ hW hW.size hb⟩); rintro e w1 ⟨rfl, hb⟩; have HB := Aside0.mk (Qap (Qal (Below.refl _ _) _) hb : Below w.heap.size w w1); clear hb))
 go_ret
 exact ⟨rfl, HB.out⟩
theorem progok1_calls (m : Qae) (bp : Nat) (A0 : Option Addr) (n0 c0 : Nat) (cs : List Value) (w : World) (hn0 : n0 ≤ 9223372036854775807) (hp : w.cell? ⟨bp, 0, none⟩ = some (.slice A0 n0 c0)) (hK : (QaD).K w m cs) :
 Calls Try.prog 64 (#[.agg cs.toArray] ++ #[.pointer (some ⟨bp, 0, none⟩)]) w fun e w' => e = .returned (.bool (QaZ n0 m)) ∧ Below w.heap.size w w' := by
 obtain ⟨A2, c2, rfl, l2, g2⟩ := Qci hK
 unfold QaZ
 by_cases h : 0 ≤ m.f0 ∧ m.f0 ≤ 2 ∧ m.f0 ≤ m.f1 ∧ m.f1 ≤ 4 ∧ m.f2.length ≤ 14
 · rw [if_pos h]
   exact progok1_in m.f0 m.f1 m.f2 bp A0 n0 c0 A2 c2 w h.1 h.2.1 h.2.2.1 h.2.2.2.1 h.2.2.2.2 hn0 hp g2
 · rw [if_neg h]
   exact progok1_out m bp A2 c2 w h
end Go.Proofs.Ytabcijheemjplaa.G
namespace Go.Proofs.Ytabcijheemjplaa.G
open Go.RowKit Go.Proofs.YtabcijheemjplaaW.PrintWords Go.Proofs.YtabcijheemjplaaW.PrintLast Go.Proofs.YtabcijheemjplaaW.PrintMore
attribute [local go_sem] QaQ QaR Qa3 Qa4 QaJ QaK QaS QaT
set_option linter.unusedVariables false
set_option linter.unusedSimpArgs false
def Qbm.f (l0_0 : List (Qae)) : Option Bool := some (QbB l0_0)
set_option maxHeartbeats 2000000 in
set_option maxRecDepth 100000 in
theorem ProgOk_few (A0 : Option Addr) (c0 : Nat) (l : List Qae) (w : World) (h : ¬ (1 ≤ l.length ∧ l.length ≤ 4)) :
 Calls Try.prog 24 #[.agg #[.slice A0 l.length c0]] w fun e w' => e = .returned (.bool false) ∧ Below w.heap.size w w' := by
 have h : decide (1 ≤ (l.length : Int)) = false ∨ (decide (1 ≤ (l.length : Int)) = true ∧ decide ((l.length : Int) ≤ 4) = false) := by
  by_cases h1 : 1 ≤ l.length
  · exact .inr ⟨by simp; omega, by simp; omega⟩
  · exact .inl (by simp; omega)
 rcases h with h1 | ⟨h1, h2⟩
 · go_enter Try.func24, Try.ntmps24
   go_wp2_with (go_at_call 62; refine (in_any _ _ _ _).mono ?_; rintro e w3 ⟨rfl, rfl⟩)
   go_ret
   exact ⟨rfl, Qal (Below.refl _ _) _⟩
 · go_enter Try.func24, Try.ntmps24
   go_wp2_with (go_at_call 62; refine (in_any _ _ _ _).mono ?_; rintro e w3 ⟨rfl, rfl⟩)
   go_ret
   exact ⟨rfl, Qal (Below.refl _ _) _⟩
set_option maxHeartbeats 2000000 in
set_option maxRecDepth 100000 in
theorem ProgOk_args (A0 : Option Addr) (c0 : Nat) (l : List Qae) (w : World) (h1 : 1 ≤ l.length) (h2 : l.length ≤ 4) (hr : Kd.C QaD w A0 l.length l) (h3 : ¬ (Qaa l 0).f0 = 0) :
 Calls Try.prog 24 #[.agg #[.slice A0 l.length c0]] w fun e w' => e = .returned (.bool false) ∧ Below w.heap.size w w' := by
 obtain ⟨ad, A2, c2, rfl, hx0, -, -, -, -⟩ := Qba hr 0 (by omega) (by omega)
 have d1 : decide (1 ≤ (l.length : Int)) = true := decide_eq_true (by omega)
 have d2 : decide ((l.length : Int) ≤ 4) = true := decide_eq_true (by omega)
 have d0 : decide (0 < l.length) = true := decide_eq_true (by omega)
 have i1 : (0 : Int) < (l.length : Int) := by omega
 have i2 : 0 < l.length := by omega
 have d3 : ((Qaa l 0).f0 != 0) = true := bne_iff_ne.mpr h3
 have hx := QaI (Qal (Below.refl _ _) (.cells #[.slice (some ad) l.length c0] 25)) hx0
 simp only [Int.toNat_zero, Nat.zero_mul] at hx
 have e0 : ad.add 0 = ad := by unfold Addr.add; simp
 rw [e0] at hx
 clear h1 h2 h3 hx0 hr e0 d0
 go_enter Try.func24, Try.ntmps24
 go_wp2_with (go_at_call 62; refine (in_any _ _ _ _).mono ?_; rintro e w3 ⟨rfl, rfl⟩)
 go_ret
 exact ⟨rfl, Qal (Below.refl _ _) _⟩
set_option maxHeartbeats 2000000 in
set_option maxRecDepth 100000 in
theorem ProgOk_all (A0 : Option Addr) (c0 : Nat) (l : List Qae) (w : World) (h1 : 1 ≤ l.length) (h2 : l.length ≤ 4) (hr : Kd.C QaD w A0 l.length l) (h3 : (Qaa l 0).f0 = 0) :
 Calls Try.prog 24 #[.agg #[.slice A0 l.length c0]] w fun e w' => e = .returned (.bool (!(l.any (QaZ l.length)))) ∧ Below w.heap.size w w' := by
 have HR := Aside0.mk hr
 obtain ⟨ad, A2, c2, rfl, hx0, -, -, -, -⟩ := Qba hr 0 (by omega) (by omega)
 have d1 : decide (1 ≤ (l.length : Int)) = true := decide_eq_true (by omega)
 have d2 : decide ((l.length : Int) ≤ 4) = true := decide_eq_true (by omega)
 have i1 : (0 : Int) < (l.length : Int) := by omega
 have i2 : 0 < l.length := by omega
 have d3 : ((Qaa l 0).f0 != 0) = false := bne_eq_false_iff_eq.mpr h3
 have hx := QaI (Qal (Below.refl _ _) (.cells #[.slice (some ad) l.length c0] 25)) hx0
 simp only [Int.toNat_zero, Nat.zero_mul] at hx
 have e0 : ad.add 0 = ad := by unfold Addr.add; simp
 rw [e0] at hx
 have BK := Aside0.mk (blk_new w (.cells #[.slice (some ad) l.length c0] 25))
 have N0 := Aside0.mk (show l.length ≤ 9223372036854775807 by omega)
 clear h1 h2 h3 hx0 hr e0
 go_enter Try.func24, Try.ntmps24
 go_wp2_with (first | (go_at_call 62; refine (in_any _ _ _ _).mono ?_; rintro e w3 ⟨rfl, rfl⟩) | (go_at_call 63; refine (contains_impl_Method 64 _ progok1_enters (QaZ l.length) _ _ _ _ ?hc ?hq).mono ?_; (case hc => exact Kd.C_alloc HR.out _); (case hq => intro W hW m cs hm hK; exact (progok1_calls m w.heap.size (some ad) l.length c0 cs W N0.out (Qaf ((hW.block _ (Qbr BK.out)).trans BK.out) 0) hK).mono fun e w' ⟨he, hb⟩ => ⟨he, Qa_ hW hW.size hb⟩); rintro e w1 ⟨rfl, hb⟩; have HB := Aside0.mk (Qap (Qal (Below.refl _ _) _) hb : Below w.heap.size w w1); clear hb))
 go_ret
 exact ⟨rfl, HB.out⟩
theorem Qbm.calls (A0_0 : Option Addr) (c0_0 : Nat) (l0_0 : List (Qae)) (r : Bool) (w : World) (hr0_0 : Kd.C QaD w A0_0 l0_0.length l0_0) (hc0_0 : l0_0.length ≤ c0_0) (h : Qbm.f l0_0 = some r) :
 Calls Try.prog 24 #[.agg #[.slice A0_0 l0_0.length c0_0]] w fun e w' => e = .returned (.bool r) ∧ Below w.heap.size w w' := by
 unfold Qbm.f QbB at h
 obtain rfl := Option.some.inj h
 by_cases h1 : 1 ≤ l0_0.length ∧ l0_0.length ≤ 4
 · by_cases h3 : (Qaa l0_0 0).f0 = 0
   · rw [if_pos ⟨h1.1, h1.2, h3⟩]
     exact ProgOk_all A0_0 c0_0 l0_0 w h1.1 h1.2 hr0_0 h3
   · rw [if_neg (fun h => h3 h.2.2)]
     exact ProgOk_args A0_0 c0_0 l0_0 w h1.1 h1.2 hr0_0 h3
 · rw [if_neg (fun h => h1 ⟨h.1, h.2.1⟩)]
   exact ProgOk_few A0_0 c0_0 l0_0 w h1
end Go.Proofs.Ytabcijheemjplaa.G
namespace Go.Proofs.Ytabcijheemjplaa.G
open Go.RowKit Go.Proofs.YtabcijheemjplaaW.PrintWords Go.Proofs.YtabcijheemjplaaW.PrintLast Go.Proofs.YtabcijheemjplaaW.PrintMore
attribute [local go_sem] QaQ QaR Qa3 Qa4 QaJ QaK QaS QaT
set_option linter.unusedVariables false
set_option linter.unusedSimpArgs false
mutual
def Qak.j0 : Nat → Int → Bool → List (Qae) → Option (List Int × Int × Bool)
 | 0, _, _, _ => none
 | k + 1, x1, x39, x102000 => if x39 = true then (some (([] : List Int), 0, false)) else (if 0 ≤ x1 then (if x1 < (x102000.length : Int) then (if 0 ≤ (((Qaa x102000 x1).f2).length : Int) then (if ((((Qaa x102000 x1).f2).length : Int) : Int).toNat ≤ 35184372088832 then ((some (List.replicate ((((Qaa x102000 x1).f2).length : Int) : Int).toNat 0 : List Int)).bind fun y107 => (Qak.l0 k y107 (y107.length : Int) 0 x102000 ((Qaa x102000 x1).f0) ((Qaa x102000 x1).f1) ((Qaa x102000 x1).f2))) else (none)) else (none)) else (none)) else (none))
def Qak.l0 : Nat → List Int → Int → Int → List (Qae) → Int → Int → List (Qac) → Option (List Int × Int × Bool)
 | 0, _, _, _, _, _, _, _ => none
 | k + 1, x8, x50, x51, x102000, x107000, x107001, x107002 => if x51 < x50 then (if 0 ≤ x51 then (if x51 < (x8.length : Int) then (Qak.l0 k (x8.set (x51 : Int).toNat (-1)) x50 (wrap64 (x51 + 1)) x102000 x107000 x107001 x107002) else (none)) else (none)) else (if 0 < (x8.length : Int) then (Qak.l1 k (x8.set (0 : Int).toNat 0) 0 (([0] : List Int)) x102000 x107000 x107001 x107002) else (none))
def Qak.l1 : Nat → List Int → Int → List Int → List (Qae) → Int → Int → List (Qac) → Option (List Int × Int × Bool)
 | 0, _, _, _, _, _, _, _ => none
 | k + 1, x8, x10, x11, x102000, x107000, x107001, x107002 => if (x11.length : Int) > 0 then (if 0 < (x11.length : Int) then (if 0 ≤ (rd x11 0) then (if (rd x11 0) < (x107002.length : Int) then ((QbM.f x102000 ((Qah x107002 (rd x11 0)).f0) ((Qah x107002 (rd x11 0)).f1)).bind fun bt117 => (if (rd x11 0) < (x8.length : Int) then (if bt117.1 > (rd x8 (rd x11 0)) then (Qak.j3 k x8 x10 x11 (rd x11 0) (wrap64 ((wrap64 ((rd x8 (rd x11 0)) - bt117.1)) + bt117.2)) true x102000 x107000 x107001 x107002) else (Qak.j3 k x8 x10 x11 (rd x11 0) (wrap64 ((wrap64 ((rd x8 (rd x11 0)) - bt117.1)) + bt117.2)) (decide ((wrap64 ((wrap64 ((rd x8 (rd x11 0)) - bt117.1)) + bt117.2)) > 6)) x102000 x107000 x107001 x107002)) else (none))) else (none)) else (none)) else (none)) else (some (x8, x10, true))
def Qak.j3 : Nat → List Int → Int → List Int → Int → Int → Bool → List (Qae) → Int → Int → List (Qac) → Option (List Int × Int × Bool)
 | 0, _, _, _, _, _, _, _, _, _, _ => none
 | k + 1, x8, x10, x11, x12, x15, x96, x102000, x107000, x107001, x107002 => if x96 = true then (some (([] : List Int), 0, false)) else (if 0 ≤ x12 then (if x12 < (x8.length : Int) then ((Qbg.f x107000 x107001 x107002 x12).bind fun t122 => (Qak.l2 k x8 (mx (mx x10 (rd x8 x12)) x15) x11 x15 t122 (t122.length : Int) 0 x102000 x107000 x107001 x107002)) else (none)) else (none))
def Qak.l2 : Nat → List Int → Int → List Int → Int → List Int → Int → Int → List (Qae) → Int → Int → List (Qac) → Option (List Int × Int × Bool)
 | 0, _, _, _, _, _, _, _, _, _, _, _ => none
 | k + 1, x8, x10, x11, x15, x106, x107, x108, x102000, x107000, x107001, x107002 => if x108 < x107 then (if 0 ≤ x108 then (if x108 < (x106.length : Int) then (if (rd x106 x108) ≥ (x107002.length : Int) then (some (([] : List Int), 0, false)) else (if 0 ≤ (rd x106 x108) then (if (rd x106 x108) < (x8.length : Int) then (if (rd x8 (rd x106 x108)) < 0 then (if x11.length < 17592186044416 then (Qak.l2 k (x8.set ((rd x106 x108) : Int).toNat x15) x10 (x11 ++ [rd x106 x108]) x15 x106 x107 (wrap64 (x108 + 1)) x102000 x107000 x107001 x107002) else (none)) else (if (rd x8 (rd x106 x108)) = x15 then (Qak.l2 k x8 x10 x11 x15 x106 x107 (wrap64 (x108 + 1)) x102000 x107000 x107001 x107002) else (some (([] : List Int), 0, false)))) else (none)) else (none))) else (none)) else (none)) else (if 1 ≤ (x11.length : Int) then (Qak.l1 k x8 x10 (x11.drop (1 : Int).toNat) x102000 x107000 x107001 x107002) else (none))
end
def Qak.f (k : Nat) (l0_0 : List (Qae)) (a1 : Int) : Option (List Int × Int × Bool) := (Qbm.f l0_0).bind fun t102 => (if t102 = true then ((Qcv.f a1 0 (wrap64 ((l0_0.length : Int) - 1))).bind fun t103 => (if t103 = true then (if 0 ≤ a1 then (if a1 < (l0_0.length : Int) then (Qak.j0 k a1 ((((Qaa l0_0 a1).f2).length : Int) == 0) l0_0) else (none)) else (none)) else (Qak.j0 k a1 true l0_0))) else (Qak.j0 k a1 true l0_0))
theorem Qak.mono_l : ∀ k, (∀ y0 y1 y2, LeO (Qak.j0 k y0 y1 y2) (Qak.j0 (k + 1) y0 y1 y2)) ∧ (∀ y0 y1 y2 y3 y4 y5 y6, LeO (Qak.l0 k y0 y1 y2 y3 y4 y5 y6) (Qak.l0 (k + 1) y0 y1 y2 y3 y4 y5 y6)) ∧ (∀ y0 y1 y2 y3 y4 y5 y6, LeO (Qak.l1 k y0 y1 y2 y3 y4 y5 y6) (Qak.l1 (k + 1) y0 y1 y2 y3 y4 y5 y6)) ∧ (∀ y0 y1 y2 y3 y4 y5 y6 y7 y8 y9, LeO (Qak.j3 k y0 y1 y2 y3 y4 y5 y6 y7 y8 y9) (Qak.j3 (k + 1) y0 y1 y2 y3 y4 y5 y6 y7 y8 y9)) ∧ (∀ y0 y1 y2 y3 y4 y5 y6 y7 y8 y9 y10, LeO (Qak.l2 k y0 y1 y2 y3 y4 y5 y6 y7 y8 y9 y10) (Qak.l2 (k + 1) y0 y1 y2 y3 y4 y5 y6 y7 y8 y9 y10))
 | 0 => ⟨fun _ _ _ r h => by simp [Qak.j0] at h, fun _ _ _ _ _ _ _ r h => by simp [Qak.l0] at h, fun _ _ _ _ _ _ _ r h => by simp [Qak.l1] at h, fun _ _ _ _ _ _ _ _ _ _ r h => by simp [Qak.j3] at h, fun _ _ _ _ _ _ _ _ _ _ _ r h => by simp [Qak.l2] at h⟩
 | k + 1 => by
   obtain ⟨ih0, ih1, ih2, ih3, ih4⟩ := Qak.mono_l k
   refine ⟨?_, ?_, ?_, ?_, ?_⟩
   · intro y0 y1 y2
     unfold Qak.j0
     repeat' first
     | (with_reducible exact ih0 _ _ _)
     | (with_reducible exact ih1 _ _ _ _ _ _ _)
     | (with_reducible exact ih2 _ _ _ _ _ _ _)
     | (with_reducible exact ih3 _ _ _ _ _ _ _ _ _ _)
     | (with_reducible exact ih4 _ _ _ _ _ _ _ _ _ _ _)
     | (with_reducible exact LeO.refl _)
     | (with_reducible exact LeO.none _)
     | (with_reducible refine LeO.ite ?_ ?_)
     | (with_reducible refine LeO.bind ?_ (fun _ => ?_))
     | exact ih0 _ _ _
     | exact ih1 _ _ _ _ _ _ _
     | exact ih2 _ _ _ _ _ _ _
     | exact ih3 _ _ _ _ _ _ _ _ _ _
     | exact ih4 _ _ _ _ _ _ _ _ _ _ _
     | exact LeO.none _
     | refine LeO.ite ?_ ?_
     | refine LeO.bind ?_ (fun _ => ?_)
   · intro y0 y1 y2 y3 y4 y5 y6
     unfold Qak.l0
     repeat' first
     | (with_reducible exact ih0 _ _ _)
     | (with_reducible exact ih1 _ _ _ _ _ _ _)
     | (with_reducible exact ih2 _ _ _ _ _ _ _)
     | (with_reducible exact ih3 _ _ _ _ _ _ _ _ _ _)
     | (with_reducible exact ih4 _ _ _ _ _ _ _ _ _ _ _)
     | (with_reducible exact LeO.refl _)
     | (with_reducible exact LeO.none _)
     | (with_reducible refine LeO.ite ?_ ?_)
     | (with_reducible refine LeO.bind ?_ (fun _ => ?_))
     | exact ih0 _ _ _
     | exact ih1 _ _ _ _ _ _ _
     | exact ih2 _ _ _ _ _ _ _
     | exact ih3 _ _ _ _ _ _ _ _ _ _
     | exact ih4 _ _ _ _ _ _ _ _ _ _ _
     | exact LeO.none _
     | refine LeO.ite ?_ ?_
     | refine LeO.bind ?_ (fun _ => ?_)
   · intro y0 y1 y2 y3 y4 y5 y6
     unfold Qak.l1
     repeat' first
     | (with_reducible exact ih0 _ _ _)
     | (with_reducible exact ih1 _ _ _ _ _ _ _)
     | (with_reducible exact ih2 _ _ _ _ _ _ _)
     | (with_reducible exact ih3 _ _ _ _ _ _ _ _ _ _)
     | (with_reducible exact ih4 _ _ _ _ _ _ _ _ _ _ _)
     | (with_reducible exact LeO.refl _)
     | (with_reducible exact LeO.none _)
     | (with_reducible refine LeO.ite ?_ ?_)
     | (with_reducible refine LeO.bind ?_ (fun _ => ?_))
     | exact ih0 _ _ _
     | exact ih1 _ _ _ _ _ _ _
     | exact ih2 _ _ _ _ _ _ _
     | exact ih3 _ _ _ _ _ _ _ _ _ _
     | exact ih4 _ _ _ _ _ _ _ _ _ _ _
     | exact LeO.none _
     | refine LeO.ite ?_ ?_
     | refine LeO.bind ?_ (fun _ => ?_)
   · intro y0 y1 y2 y3 y4 y5 y6 y7 y8 y9
     unfold Qak.j3
     repeat' first
     | (with_reducible exact ih0 _ _ _)
     | (with_reducible exact ih1 _ _ _ _ _ _ _)
     | (with_reducible exact ih2 _ _ _ _ _ _ _)
     | (with_reducible exact ih3 _ _ _ _ _ _ _ _ _ _)
     | (with_reducible exact ih4 _ _ _ _ _ _ _ _ _ _ _)
     | (with_reducible exact LeO.refl _)
     | (with_reducible exact LeO.none _)
     | (with_reducible refine LeO.ite ?_ ?_)
     | (with_reducible refine LeO.bind ?_ (fun _ => ?_))
     | exact ih0 _ _ _
     | exact ih1 _ _ _ _ _ _ _
     | exact ih2 _ _ _ _ _ _ _
     | exact ih3 _ _ _ _ _ _ _ _ _ _
     | exact ih4 _ _ _ _ _ _ _ _ _ _ _
     | exact LeO.none _
     | refine LeO.ite ?_ ?_
     | refine LeO.bind ?_ (fun _ => ?_)
   · intro y0 y1 y2 y3 y4 y5 y6 y7 y8 y9 y10
     unfold Qak.l2
     repeat' first
     | (with_reducible exact ih0 _ _ _)
     | (with_reducible exact ih1 _ _ _ _ _ _ _)
     | (with_reducible exact ih2 _ _ _ _ _ _ _)
     | (with_reducible exact ih3 _ _ _ _ _ _ _ _ _ _)
     | (with_reducible exact ih4 _ _ _ _ _ _ _ _ _ _ _)
     | (with_reducible exact LeO.refl _)
     | (with_reducible exact LeO.none _)
     | (with_reducible refine LeO.ite ?_ ?_)
     | (with_reducible refine LeO.bind ?_ (fun _ => ?_))
     | exact ih0 _ _ _
     | exact ih1 _ _ _ _ _ _ _
     | exact ih2 _ _ _ _ _ _ _
     | exact ih3 _ _ _ _ _ _ _ _ _ _
     | exact ih4 _ _ _ _ _ _ _ _ _ _ _
     | exact LeO.none _
     | refine LeO.ite ?_ ?_
     | refine LeO.bind ?_ (fun _ => ?_)
theorem Qak.mono : ∀ a0 a1 k, LeO (Qak.f k a0 a1) (Qak.f (k + 1) a0 a1) := by
 intro a0 a1 k
 obtain ⟨ih0, ih1, ih2, ih3, ih4⟩ := Qak.mono_l k
 unfold Qak.f
 repeat' first
  | (with_reducible exact ih0 _ _ _)
  | (with_reducible exact ih1 _ _ _ _ _ _ _)
  | (with_reducible exact ih2 _ _ _ _ _ _ _)
  | (with_reducible exact ih3 _ _ _ _ _ _ _ _ _ _)
  | (with_reducible exact ih4 _ _ _ _ _ _ _ _ _ _ _)
  | (with_reducible exact LeO.refl _)
  | (with_reducible exact LeO.none _)
  | (with_reducible refine LeO.ite ?_ ?_)
  | (with_reducible refine LeO.bind ?_ (fun _ => ?_))
  | exact ih0 _ _ _
  | exact ih1 _ _ _ _ _ _ _
  | exact ih2 _ _ _ _ _ _ _
  | exact ih3 _ _ _ _ _ _ _ _ _ _
  | exact ih4 _ _ _ _ _ _ _ _ _ _ _
  | exact LeO.none _
  | refine LeO.ite ?_ ?_
  | refine LeO.bind ?_ (fun _ => ?_)
def Qak.T16 : Bool × List (List Nat × List Nat) := (true, [([], []), ([], []), ([1], [1]), ([], []), ([2, 3], [2, 3]), ([4], [4]), ([0, 5], [0, 5]), ([6], [6]), ([7], [7]), ([7], [7]), ([8, 6, 0, 1, 2, 3, 4, 5, 6, 7, 8], [8]), ([9, 10, 0, 1, 2, 3, 4, 5, 6, 7, 8, 9, 10], [9])])
def Qak.B16 : List Nat := [0, 0, 2, 0, 14, 30, 63, 127, 255, 255, 511, 2047]
theorem Qak.tab16 : rtab .any (opsOf Try.f60 16) = Qak.T16 := by kernel_rfl
theorem Qak.bits16 : QbZ Qak.T16.2 Qak.B16 = true := by kernel_rfl
set_option maxHeartbeats 8000000 in
set_option maxRecDepth 100000 in
theorem Qak.calls (k : Nat) (A0_0 : Option Addr) (c0_0 : Nat) (l0_0 : List (Qae)) (a1 : Int) (r1 : List Int) (r2 : Int) (r3 : Bool) (w : World) (hr0_0 : Kd.C QaD w A0_0 l0_0.length l0_0) (hc0_0 : l0_0.length ≤ c0_0) (h : Qak.f k l0_0 a1 = some (r1, r2, r3)) :
 Calls Try.prog 60 #[.agg #[.slice A0_0 l0_0.length c0_0], .int .i64 a1] w fun e w' => ∃ v0_ : Value, e = .returned (.tuple #[v0_, .int .i64 r2, .bool r3]) ∧ Kd.R (Kd.int .i64) 3 w' w.heap.size (fun _ => True) v0_ r1 ∧ Below w.heap.size w w' := by
 have hu25 := Try.underlying25
 have hu34 := Try.underlying34
 have hu83 := Try.underlying83
 have HR0_0 := Aside0.mk hr0_0
 have HC0_0 := Aside0.mk hc0_0
 clear hr0_0 hc0_0
 have HB := Aside0.mk (Below.refl w.heap.size w)
 have H : ((Qbm.f l0_0).bind fun t102 => (if t102 = true then ((Qcv.f a1 0 (wrap64 ((l0_0.length : Int) - 1))).bind fun t103 => (if t103 = true then (if 0 ≤ a1 then (if a1 < (l0_0.length : Int) then (Qak.j0 k a1 ((((Qaa l0_0 a1).f2).length : Int) == 0) l0_0) else (none)) else (none)) else (Qak.j0 k a1 true l0_0))) else (Qak.j0 k a1 true l0_0))) = some (r1, r2, r3) := h
 clear h
 have HC3 := Aside0.mk H
 clear H
 go_enter Try.func60, Try.ntmps60
 go_upto_region 1 with (first | ((with_reducible refine QaH (N := 2) rfl ?_); (try (refine Qa8 (by rfl) ?_; dsimp only)); refine QaN ?hg (N := 2) ?hd (cs := #[.slice A0_0 l0_0.length c0_0]) (t := 25) ?hr ?_; (case hd => rfl); (case hg => rfl); (case hr => first | (go_simp; done) | (go_simp; rfl)); intro gb101 hg w4 hbox hb; have n0_ := Aside0.mk (Qap (bw_) hb); have n1_ := Aside0.mk (hbox); have n2_ := Aside0.mk ((gs_ hg bw_ : w.heap.size ≤ gb101)); have n3_ := Aside0.mk ((gs_ hg bw_ : w.heap.size ≤ gb101)); clear HB; have HB := n0_; have BK101 := n1_; have GW101 := n2_; have GE101 := n3_; clear n0_ n1_ n2_ n3_; clear hb hbox hg))
 (try simp only [Act.put, List.setIfInBounds_toArray, List.set_cons_zero, List.set_cons_succ])
 go_cut [39] (fun v39 wc => ∃ (kq : Nat) (x39_2 : Bool), v39 = .bool x39_2 ∧ Aside0 (Qak.j0 kq a1 x39_2 l0_0 = some (r1, r2, r3)) ∧ Aside0 (kq ≤ k) ∧ Aside0 (wc.heap[gb101]? = some (.cells #[(.slice A0_0 l0_0.length c0_0)] 25 (0, 0))) ∧ Aside0 (Below w.heap.size w wc))
 case first =>
  have H := HC3.out
  clear HC3
  replace H := Option.bind_eq_some_iff.mp H
  obtain ⟨t102, A50, H⟩ := H
  replace H : (if t102 = true then ((Qcv.f a1 0 (wrap64 ((l0_0.length : Int) - 1))).bind fun t103 => (if t103 = true then (if 0 ≤ a1 then (if a1 < (l0_0.length : Int) then (Qak.j0 k a1 ((((Qaa l0_0 a1).f2).length : Int) == 0) l0_0) else (none)) else (none)) else (Qak.j0 k a1 true l0_0))) else (Qak.j0 k a1 true l0_0)) = some (r1, r2, r3) := H
  have A5 := Aside0.mk A50
  clear A50
  by_cases c6 : t102 = true
  · subst c6
    have H1 : ((Qcv.f a1 0 (wrap64 ((l0_0.length : Int) - 1))).bind fun t103 => (if t103 = true then (if 0 ≤ a1 then (if a1 < (l0_0.length : Int) then (Qak.j0 k a1 ((((Qaa l0_0 a1).f2).length : Int) == 0) l0_0) else (none)) else (none)) else (Qak.j0 k a1 true l0_0))) = some (r1, r2, r3) := by rw [if_pos rfl] at H; exact H
    clear H
    have H := H1
    clear H1
    replace H := Option.bind_eq_some_iff.mp H
    obtain ⟨t103, A70, H⟩ := H
    replace H : (if t103 = true then (if 0 ≤ a1 then (if a1 < (l0_0.length : Int) then (Qak.j0 k a1 ((((Qaa l0_0 a1).f2).length : Int) == 0) l0_0) else (none)) else (none)) else (Qak.j0 k a1 true l0_0)) = some (r1, r2, r3) := H
    have A7 := Aside0.mk A70
    clear A70
    by_cases c8 : t103 = true
    · subst c8
      have H1 : (if 0 ≤ a1 then (if a1 < (l0_0.length : Int) then (Qak.j0 k a1 ((((Qaa l0_0 a1).f2).length : Int) == 0) l0_0) else (none)) else (none)) = some (r1, r2, r3) := by rw [if_pos rfl] at H; exact H
      clear H
      have H := H1
      clear H1
      by_cases c9 : 0 ≤ a1
      · rw [if_pos c9] at H
        have c9b0 : decide (0 ≤ a1) = true := decide_eq_true c9
        clear c9
        (first | rw [c9b0] | (simp only [Qbb, Qbd]; rw [c9b0]) | skip)
        by_cases c10 : a1 < (l0_0.length : Int)
        · rw [if_pos c10] at H
          have c10b0 : decide (a1 < (l0_0.length : Int)) = true := decide_eq_true c10
          clear c10
          have H' := Aside0.mk H
          clear H
          have hcz11_0 : w4.cell? ⟨gb101, 0, none⟩ = some (.slice A0_0 l0_0.length c0_0) := (Qaf BK101.out 0).trans rfl
          have hfz11_0 := Qaj BK101.out 0
          go_wp2_with (first | ((with_reducible refine Qax (f := 24) rfl ?_); refine QaX (some 19) rfl rfl Try.func24 (by kernel_rfl) rfl #[.agg #[.slice A0_0 l0_0.length c0_0]] rfl (by (try simp only [List.map_toArray, List.map_cons, List.map_nil]); first | done | rfl | (simp only [List.length_drop, List.length_take]; rfl)) ?_; (with_reducible refine (Qbm.calls _ _ l0_0 true _ ?side1 ?side2 A5.out).mono ?_); (case side1 => exact cb_); (case side2 => exact HC0_0.out); rintro e w12 ⟨rfl, hb⟩; refine ⟨_, rfl, ?_⟩; have n0_ := Aside0.mk (bb_ BK101 hb); have n1_ := Aside0.mk (Qap (bw_) hb); clear BK101; clear HB; have BK101 := n0_; have HB := n1_; clear n0_ n1_; (try clear hb); (try clear hb2); (try clear hk); (try clear hi); obtain ⟨hcz13_0, hfz13_0⟩ := blkF1_ BK101.out) | (go_at_call 62; (with_reducible refine (Qcv.calls a1 0 (wrap64 ((l0_0.length : Int) - 1)) true _ A7.out).mono ?_); rintro e w' ⟨rfl, ⟨nd, rfl⟩⟩; have p104 : 0 ≤ (a1 : Int) := of_decide_eq_true (by first | (with_reducible assumption) | assumption); have q104 : a1 < (l0_0.length : Int) := of_decide_eq_true (by first | (with_reducible assumption) | assumption); obtain ⟨ad104, A104_2, c104_2, e104, hx104_0, hx104_1, hx104_2, hl104_2, hi104_2⟩ := Qba HR0_0.out a1 p104 q104; cases e104; replace hx104_0 := (HB.out.cell (World.block_lt_of_cell? w _ hx104_0)).trans hx104_0; replace hx104_1 := (HB.out.cell (World.block_lt_of_cell? w _ hx104_1)).trans hx104_1; replace hx104_2 := (HB.out.cell (World.block_lt_of_cell? w _ hx104_2)).trans hx104_2; have HR104_2 := Aside0.mk hi104_2; have HC104_2 := Aside0.mk hl104_2; clear hi104_2 hl104_2; replace p104 := eq_true p104; replace q104 := eq_true q104))
          go_meet
          case rel => exact ⟨_, (((((Qaa l0_0 a1).f2).length : Int) == 0)), (by first | rfl | (simp; done) | (simp [*]; done)), H', ⟨by first | omega | exact Nat.le_refl _⟩, ⟨by (refine kb_ ?_); exact BK101.out⟩, ⟨bw_⟩⟩
        · rw [if_neg c10] at H
          exact absurd H (by simp)
      · rw [if_neg c9] at H
        exact absurd H (by simp)
    · replace c8 := Bool.eq_false_iff.mpr c8
      subst c8
      have H1 : (Qak.j0 k a1 true l0_0) = some (r1, r2, r3) := by rw [if_neg (show ¬ (false = true) by decide)] at H; exact H
      clear H
      have H := H1
      clear H1
      have H' := Aside0.mk H
      clear H
      have hcz14_0 : w4.cell? ⟨gb101, 0, none⟩ = some (.slice A0_0 l0_0.length c0_0) := (Qaf BK101.out 0).trans rfl
      have hfz14_0 := Qaj BK101.out 0
      go_wp2_with (first | ((with_reducible refine Qax (f := 24) rfl ?_); refine QaX (some 19) rfl rfl Try.func24 (by kernel_rfl) rfl #[.agg #[.slice A0_0 l0_0.length c0_0]] rfl (by (try simp only [List.map_toArray, List.map_cons, List.map_nil]); first | done | rfl | (simp only [List.length_drop, List.length_take]; rfl)) ?_; (with_reducible refine (Qbm.calls _ _ l0_0 true _ ?side1 ?side2 A5.out).mono ?_); (case side1 => exact cb_); (case side2 => exact HC0_0.out); rintro e w15 ⟨rfl, hb⟩; refine ⟨_, rfl, ?_⟩; have n0_ := Aside0.mk (bb_ BK101 hb); have n1_ := Aside0.mk (Qap (bw_) hb); clear BK101; clear HB; have BK101 := n0_; have HB := n1_; clear n0_ n1_; (try clear hb); (try clear hb2); (try clear hk); (try clear hi); obtain ⟨hcz16_0, hfz16_0⟩ := blkF1_ BK101.out) | (go_at_call 62; (with_reducible refine (Qcv.calls a1 0 (wrap64 ((l0_0.length : Int) - 1)) false _ A7.out).mono ?_); rintro e w' ⟨rfl, ⟨nd, rfl⟩⟩))
      go_meet
      case rel => exact ⟨_, (true), (by first | rfl | (simp; done) | (simp [*]; done)), H', ⟨by first | omega | exact Nat.le_refl _⟩, ⟨by (refine kb_ ?_); exact BK101.out⟩, ⟨bw_⟩⟩
  · replace c6 := Bool.eq_false_iff.mpr c6
    subst c6
    have H1 : (Qak.j0 k a1 true l0_0) = some (r1, r2, r3) := by rw [if_neg (show ¬ (false = true) by decide)] at H; exact H
    clear H
    have H := H1
    clear H1
    have H' := Aside0.mk H
    clear H
    have hcz17_0 : w4.cell? ⟨gb101, 0, none⟩ = some (.slice A0_0 l0_0.length c0_0) := (Qaf BK101.out 0).trans rfl
    have hfz17_0 := Qaj BK101.out 0
    go_wp2_with (first | ((with_reducible refine Qax (f := 24) rfl ?_); refine QaX (some 19) rfl rfl Try.func24 (by kernel_rfl) rfl #[.agg #[.slice A0_0 l0_0.length c0_0]] rfl (by (try simp only [List.map_toArray, List.map_cons, List.map_nil]); first | done | rfl | (simp only [List.length_drop, List.length_take]; rfl)) ?_; (with_reducible refine (Qbm.calls _ _ l0_0 false _ ?side1 ?side2 A5.out).mono ?_); (case side1 => exact cb_); (case side2 => exact HC0_0.out); rintro e w18 ⟨rfl, hb⟩; refine ⟨_, rfl, ?_⟩; have n0_ := Aside0.mk (bb_ BK101 hb); have n1_ := Aside0.mk (Qap (bw_) hb); clear BK101; clear HB; have BK101 := n0_; have HB := n1_; clear n0_ n1_; (try clear hb); (try clear hb2); (try clear hk); (try clear hi)))
    go_meet
    case rel => exact ⟨_, (true), (by first | rfl | (simp; done) | (simp [*]; done)), H', ⟨by first | omega | exact Nat.le_refl _⟩, ⟨by (refine kb_ ?_); exact BK101.out⟩, ⟨bw_⟩⟩
 case rest =>
  clear HC3
  try clear c1
  try clear p1
  try clear q1
  try clear hx1
  try clear c2
  try clear p2
  try clear c6
  try clear p6
  try clear c8
  try clear c9
  try clear c9b0
  try clear c10
  try clear c10b0
  try clear p10
  try clear q10
  try clear hx10
  try clear hcz11_0
  try clear hcz13_0
  try clear hcz14_0
  try clear hcz16_0
  try clear hcz17_0
  try clear hfz11_0
  try clear hfz13_0
  try clear hfz14_0
  try clear hfz16_0
  try clear hfz17_0
  try clear hx104_0
  try clear hx104_1
  try clear hx104_2
  try clear p104
  try clear q104
  obtain ⟨kq, x39_2, rfl, HA, HJ2, BK101, HB⟩ := hcut
  cases kq with
  | zero => exact absurd HA.out (by simp [Qak.j0])
  | succ kj2 =>
    have H := HA.out
    clear HA
    simp only [Qak.j0] at H
    by_cases c19 : x39_2 = true
    · subst c19
      have H1 : (some (([] : List Int), 0, false)) = some (r1, r2, r3) := by rw [if_pos rfl] at H; exact H
      clear H
      have H := H1
      clear H1
      simp only [Option.some.injEq, Prod.mk.injEq] at H
      obtain ⟨rfl, rfl, rfl⟩ := H
      go_wp2
      go_ret3
      exact ⟨_, by first | rfl | (simp [Qan, Qao] <;> rfl) | (simp [*, Qan, Qao] <;> rfl), by first | exact Kd.R_nil _ _ _ _ _ | exact Kd.N_nil _ _ _ _ _ | exact Kd.V_nil _ _ _ _ _ | exact Kd.Q_nil _ _ _ _ _ | exact Kd.S_nil _ _ _ _ _, bw_⟩
    · replace c19 := Bool.eq_false_iff.mpr c19
      subst c19
      have H1 : (if 0 ≤ a1 then (if a1 < (l0_0.length : Int) then (if 0 ≤ (((Qaa l0_0 a1).f2).length : Int) then (if ((((Qaa l0_0 a1).f2).length : Int) : Int).toNat ≤ 35184372088832 then ((some (List.replicate ((((Qaa l0_0 a1).f2).length : Int) : Int).toNat 0 : List Int)).bind fun y107 => (Qak.l0 kj2 y107 (y107.length : Int) 0 l0_0 ((Qaa l0_0 a1).f0) ((Qaa l0_0 a1).f1) ((Qaa l0_0 a1).f2))) else (none)) else (none)) else (none)) else (none)) = some (r1, r2, r3) := by rw [if_neg (show ¬ (false = true) by decide)] at H; exact H
      clear H
      have H := H1
      clear H1
      by_cases c20 : 0 ≤ a1
      · rw [if_pos c20] at H
        have c20b0 : decide (0 ≤ a1) = true := decide_eq_true c20
        clear c20
        by_cases c21 : a1 < (l0_0.length : Int)
        · rw [if_pos c21] at H
          have c21b0 : decide (a1 < (l0_0.length : Int)) = true := decide_eq_true c21
          clear c21
          by_cases c22 : 0 ≤ (((Qaa l0_0 a1).f2).length : Int)
          · rw [if_pos c22] at H
            have c22b0 := eq_true c22
            have c22b1 : decide (0 ≤ (((Qaa l0_0 a1).f2).length : Int)) = true := decide_eq_true c22
            clear c22
            by_cases c23 : ((((Qaa l0_0 a1).f2).length : Int) : Int).toNat ≤ 35184372088832
            · rw [if_pos c23] at H
              have c23b0 := eq_true c23
              have c23b1 : decide (((((Qaa l0_0 a1).f2).length : Int) : Int).toNat ≤ 35184372088832) = true := decide_eq_true c23
              clear c23
              obtain ⟨y107, hy107⟩ : ∃ y_ : List Int, y_ = (List.replicate ((((Qaa l0_0 a1).f2).length : Int) : Int).toNat 0) := ⟨_, rfl⟩
              replace H : (Qak.l0 kj2 y107 (y107.length : Int) 0 l0_0 ((Qaa l0_0 a1).f0) ((Qaa l0_0 a1).f1) ((Qaa l0_0 a1).f2)) = some (r1, r2, r3) := by first | (rw [hy107]; with_reducible exact H) | (have H2_ := (Option.bind_some _ _).symm.trans H; rw [hy107]; with_reducible exact H2_) | (have H2_ := (Option.bind_some _ _).symm.trans H; with_reducible exact H2_) | with_reducible exact H | (rw [hy107]; exact H) | exact H
              have Ny107 := Aside0.mk hy107
              clear hy107
              have H' := Aside0.mk H
              clear H
              have hcz24_0 : wc.cell? ⟨gb101, 0, none⟩ = some (.slice A0_0 l0_0.length c0_0) := (Qaf BK101.out 0).trans rfl
              have hfz24_0 := Qaj BK101.out 0
              have p105 : 0 ≤ (a1 : Int) := of_decide_eq_true (by first | (with_reducible assumption) | assumption)
              have q105 : a1 < (l0_0.length : Int) := of_decide_eq_true (by first | (with_reducible assumption) | assumption)
              obtain ⟨ad105, A105_2, c105_2, e105, hx105_0, hx105_1, hx105_2, hl105_2, hi105_2⟩ := Qba HR0_0.out a1 p105 q105
              cases e105
              replace hx105_0 := pc_ HB hx105_0
              replace hx105_1 := pc_ HB hx105_1
              replace hx105_2 := pc_ HB hx105_2
              have HR105_2 := Aside0.mk hi105_2
              have HC105_2 := Aside0.mk hl105_2
              clear hi105_2 hl105_2
              replace p105 := eq_true p105
              replace q105 := eq_true q105
              go_wp2_with (first | ((with_reducible refine QaH (N := 7) rfl ?_); (try (refine Qa8 (by rfl) ?_; dsimp only)); refine QaN ?hg (N := 7) ?hd (cs := #[.int .i64 0, .int .i64 0, .slice none 0 0]) (t := 34) ?hr ?_; (case hd => rfl); (case hg => rfl); (case hr => first | (go_simp; done) | (go_simp; rfl)); intro gb106 hg w25 hbox hb; have n0_ := Aside0.mk (bb_ BK101 hb); have n1_ := Aside0.mk (Qap (bw_) hb); have n2_ := Aside0.mk (hbox); have n3_ := Aside0.mk ((gs_ hg bw_ : w.heap.size ≤ gb106)); have n4_ := Aside0.mk ((gs_ hg bw_ : w.heap.size ≤ gb106)); have n5_ := Aside0.mk ((nl_ hg BK101 : gb101 ≠ gb106)); have n6_ := Aside0.mk ((ng_ hg BK101 : gb106 ≠ gb101)); clear BK101; clear HB; have BK101 := n0_; have HB := n1_; have BK106 := n2_; have GW106 := n3_; have GE106 := n4_; have NB101_106 := n5_; have NB106_101 := n6_; clear n0_ n1_ n2_ n3_ n4_ n5_ n6_; clear hb hbox hg; have hnb26 := NB106_101.out; have hnc26 := NB101_106.out; obtain ⟨hcz27_0, hcz27_1, hcz27_2, hfz27_0, hfz27_1, hfz27_2⟩ := Qb_ BK106.out) | ((with_reducible refine QaH (N := 48) rfl ?_); (try (refine Qa8 (by rfl) ?_; dsimp only)); refine Kd.R_make (Kd.int .i64) _ 3 rfl (N := 48) rfl 28 _ _ rfl (((Qaa l0_0 a1).f2).length : Int) rfl rfl Try.underlying28 (.int .i64 0) 8 info3 rfl (by decide) (by omega) 0 (ok := fun _ => True) (okp := fun _ => True) rfl (fun _ hk => hk) trivial (of_decide_eq_true (by first | (with_reducible assumption) | assumption)) (Nat.le_trans (Nat.mul_le_mul_right _ (of_decide_eq_true (by first | (with_reducible assumption) | assumption) : (((Qaa l0_0 a1).f2).length : Int).toNat ≤ 35184372088832)) (by omega)) (Below.refl _ _) (Nat.le_refl _) ?_; intro v108 w28 ho29 hb hg_ hnew_; clear hg_ hnew_; (first | rw [← Ny107.out] at ho29 | (simp only [Int.reduceToNat] at ho29; rw [← Ny107.out] at ho29)); have n0_ := Aside0.mk (Kd.R_lower ho29 (QaY (bw_))); have n1_ := Aside0.mk (QbW (g := gb101) (o := .cells #[.slice (some ad105) l0_0.length c0_0] 25 (0, 0)) (by (refine kb_ ?_); refine Qbe ?_ NB101_106.out _; (refine kb_ ?_); refine Qbe ?_ NB101_106.out _; (refine kb_ ?_); refine Qbe ?_ NB101_106.out _; (refine kb_ ?_); exact BK101.out) hb); have n2_ := Aside0.mk (QbW (g := gb106) (o := .cells #[.int .i64 ((Qaa l0_0 a1).f0), .int .i64 ((Qaa l0_0 a1).f1), .slice A105_2 ((Qaa l0_0 a1).f2).length c105_2] 34 (0, 0)) (by (refine kb_ ?_); refine Qbc (cs := #[.int .i64 ((Qaa l0_0 a1).f0), .int .i64 ((Qaa l0_0 a1).f1), .slice none 0 0]) ?_ 2 _ rfl; (refine kb_ ?_); refine Qbc (cs := #[.int .i64 ((Qaa l0_0 a1).f0), .int .i64 0, .slice none 0 0]) ?_ 1 _ rfl; (refine kb_ ?_); refine Qbc (cs := #[.int .i64 0, .int .i64 0, .slice none 0 0]) ?_ 0 _ rfl; (refine kb_ ?_); exact BK106.out) hb); have n3_ := Aside0.mk (Qap (bw_) hb); clear BK101; clear BK106; clear HB; have HO109 := n0_; have BK101 := n1_; have BK106 := n2_; have HB := n3_; clear n0_ n1_ n2_ n3_; clear hb ho29; obtain ⟨Ao30, co30, eo30⟩ := Kd.R_slice HO109.out; subst eo30))
              go_loopg [51] kj2 (fun kq v51 w' => ∃ (x8_2 : List Int) (x51_2 : Int), v51 = .int .i64 x51_2 ∧ Aside0 (Qak.l0 kq x8_2 (y107.length : Int) x51_2 l0_0 ((Qaa l0_0 a1).f0) ((Qaa l0_0 a1).f1) ((Qaa l0_0 a1).f2) = some (r1, r2, r3)) ∧ Aside0 (kq ≤ kj2) ∧ Aside0 (Kd.R (Kd.int .i64) 3 w' w.heap.size (fun _ => True) (.slice Ao30 y107.length co30) x8_2) ∧ Aside0 (w'.heap[gb101]? = some (.cells #[(.slice (some ad105) l0_0.length c0_0)] 25 (0, 0))) ∧ Aside0 (w'.heap[gb106]? = some (.cells #[.int .i64 ((Qaa l0_0 a1).f0), .int .i64 ((Qaa l0_0 a1).f1), (.slice A105_2 ((Qaa l0_0 a1).f2).length c105_2)] 34 (0, 0))) ∧ Aside0 (Below w.heap.size w w'))
              case atStart => exact ⟨(y107), (0), (by first | rfl | (simp; done) | (simp [*]; done)), H', ⟨Nat.le_refl _⟩, ⟨by (refine QaP ?_); exact HO109.out⟩, ⟨by (refine kb_ ?_); exact BK101.out⟩, ⟨by (refine kb_ ?_); exact BK106.out⟩, ⟨bw_⟩⟩
              case round =>
               clear H'
               try clear c1
               try clear p1
               try clear q1
               try clear hx1
               try clear c2
               try clear p2
               try clear c6
               try clear p6
               try clear c8
               try clear c9
               try clear c9b0
               try clear c10
               try clear c10b0
               try clear p10
               try clear q10
               try clear hx10
               try clear c19
               try clear c20
               try clear c20b0
               try clear c21
               try clear c21b0
               try clear c22
               try clear c22b0
               try clear c22b1
               try clear c23
               try clear c23b0
               try clear c23b1
               try clear c24
               try clear c26
               try clear hcz11_0
               try clear hcz13_0
               try clear hcz14_0
               try clear hcz16_0
               try clear hcz17_0
               try clear hcz24_0
               try clear hcz27_0
               try clear hcz27_1
               try clear hcz27_2
               try clear hfz11_0
               try clear hfz13_0
               try clear hfz14_0
               try clear hfz16_0
               try clear hfz17_0
               try clear hfz24_0
               try clear hfz27_0
               try clear hfz27_1
               try clear hfz27_2
               try clear hx104_0
               try clear hx104_1
               try clear hx104_2
               try clear hx105_0
               try clear hx105_1
               try clear hx105_2
               try clear p1
               try clear p10
               try clear p104
               try clear p105
               try clear p2
               try clear p6
               try clear q1
               try clear q10
               try clear q104
               try clear q105
               obtain ⟨x8_2, x51_2, rfl, HA, HK2, HO_8, BK101, BK106, HB⟩ := hrel
               have hl8_2 := (Kd.R_reads' HO_8.out).1
               rw [hl8_2] at HO_8
               (try simp only [hl8_2])
               (try simp only [hl8_2] at BK101)
               (try simp only [hl8_2] at BK106)
               cases gk with
               | zero => exact absurd HA.out (by simp [Qak.l0])
               | succ k2 =>
                 have H := HA.out
                 clear HA
                 simp only [Qak.l0] at H
                 by_cases c31 : x51_2 < (y107.length : Int)
                 · rw [if_pos c31] at H
                   have c31b0 : decide (x51_2 < (y107.length : Int)) = true := decide_eq_true c31
                   clear c31
                   by_cases c32 : 0 ≤ x51_2
                   · rw [if_pos c32] at H
                     have c32b0 : decide (0 ≤ x51_2) = true := decide_eq_true c32
                     clear c32
                     by_cases c33 : x51_2 < (x8_2.length : Int)
                     · rw [if_pos c33] at H
                       have c33b0 : decide (x51_2 < (x8_2.length : Int)) = true := decide_eq_true c33
                       clear c33
                       obtain ⟨y110, hy110⟩ : ∃ y_ : List Int, y_ = (x8_2.set (x51_2 : Int).toNat (-1)) := ⟨_, rfl⟩
                       replace H : (Qak.l0 k2 y110 (y107.length : Int) (wrap64 (x51_2 + 1)) l0_0 ((Qaa l0_0 a1).f0) ((Qaa l0_0 a1).f1) ((Qaa l0_0 a1).f2)) = some (r1, r2, r3) := by first | (rw [hy110]; with_reducible exact H) | (have H2_ := (Option.bind_some _ _).symm.trans H; rw [hy110]; with_reducible exact H2_) | (have H2_ := (Option.bind_some _ _).symm.trans H; with_reducible exact H2_) | with_reducible exact H | (rw [hy110]; exact H) | exact H
                       have Ny110 := Aside0.mk hy110
                       clear hy110
                       have H' := Aside0.mk H
                       clear H
                       have p34 : 0 ≤ (x51_2 : Int) := of_decide_eq_true (by first | (with_reducible assumption) | assumption)
                       have q34 : (x51_2 : Int) < ((x8_2.length : Int) : Int) := of_decide_eq_true (by first | (with_reducible assumption) | assumption)
                       obtain ⟨go34, co34, eo34, gb34, gl34, cl34, HG34⟩ := Kd.R_form HO_8.out (by omega)
                       (first | cases eo34 | (injection eo34 with ea_ en_ ec_; (first | subst ea_ | (injection ea_ with ea_; subst ea_)); subst ec_; clear en_))
                       have GB34 := Aside0.mk gb34
                       have GG34 := Aside0.mk HG34
                       clear gb34 gl34 HG34
                       obtain ⟨hx34_0, hf34_0⟩ := Kd.R_celln 0 HO_8.out (x51_2 : Int) p34 q34
                       replace p34 := eq_true p34
                       replace q34 := eq_true q34
                       have HP35 := Kd.R_putg HO_8.out (x51_2 : Int) (-1)
                       go_wp2_with (first | ((with_reducible refine Qcb (t := 3) (p := 56) rfl ?_); refine Qb3 (t := 3) (p := 56) (v := ?vo_w36) (w1 := (wr.setCell ⟨go34, (x51_2 : Int).toNat, none⟩ (.int .i64 (-1)))) ?hg ?ho ?hn ?hr ?_; (case ho => rfl); (case hg => rfl); (case hn => rfl); (case hr => first | (go_simp; done) | (go_simp; rfl)); intro w36 hw; have hg : wr.grownBy w36 (some go34) := (by rw [hw]; exact HP35.2); have hp_ : Kd.R (Kd.int .i64) 3 w36 w.heap.size (fun _ => True) (.slice (some ⟨go34, 0, none⟩) x8_2.length co30) y110 := (by rw [hw, Ny110.out]; exact HP35.1); clear HP35; have n0_ := Aside0.mk (hp_); have n1_ := Aside0.mk (QaU (g := gb101) (o := .cells #[.slice (some ad105) l0_0.length c0_0] 25 (0, 0)) (by (refine kb_ ?_); exact BK101.out) hg (Kd.R_ne HO_8.out BK101.out (by decide))); have n2_ := Aside0.mk (QaU (g := gb106) (o := .cells #[.int .i64 ((Qaa l0_0 a1).f0), .int .i64 ((Qaa l0_0 a1).f1), .slice A105_2 ((Qaa l0_0 a1).f2).length c105_2] 34 (0, 0)) (by (refine kb_ ?_); exact BK106.out) hg (Kd.R_ne HO_8.out BK106.out (by decide))); have n3_ := Aside0.mk ((by rw [hw]; exact Qaw (HB.out) GB34.out : Below w.heap.size w w36)); clear HO_8; clear BK101; clear BK106; clear HB; have HO_8 := n0_; have BK101 := n1_; have BK106 := n2_; have HB := n3_; clear n0_ n1_ n2_ n3_; clear hg hw hp_))
                       (try simp only [← hl8_2])
                       go_roundg k2
                       case measure => have := HJ2.out; have := HK2.out; omega
                       case rel => exact ⟨(y110), (wrap64 (x51_2 + 1)), (by first | rfl | (simp; done) | (simp [*]; done)), H', ⟨by have := HJ2.out; have := HK2.out; omega⟩, ⟨by (try simp only [hl8_2]); (refine QaP ?_); exact HO_8.out⟩, ⟨by (try simp only [hl8_2]); (refine kb_ ?_); exact BK101.out⟩, ⟨by (try simp only [hl8_2]); (refine kb_ ?_); exact BK106.out⟩, ⟨bw_⟩⟩
                     · rw [if_neg c33] at H
                       exact absurd H (by simp)
                   · rw [if_neg c32] at H
                     exact absurd H (by simp)
                 · rw [if_neg c31] at H
                   have c31b0 : decide (x51_2 < (y107.length : Int)) = false := decide_eq_false c31
                   (try simp only [hl8_2] at c31b0)
                   clear c31
                   by_cases c37 : 0 < (x8_2.length : Int)
                   · rw [if_pos c37] at H
                     have c37b0 : decide (0 < (x8_2.length : Int)) = true := decide_eq_true c37
                     have c37b1 : decide (0 < x8_2.length) = true := decide_eq_true (by omega)
                     clear c37
                     obtain ⟨y111, hy111⟩ : ∃ y_ : List Int, y_ = (x8_2.set (0 : Int).toNat 0) := ⟨_, rfl⟩
                     replace H : (Qak.l1 k2 y111 0 (([0] : List Int)) l0_0 ((Qaa l0_0 a1).f0) ((Qaa l0_0 a1).f1) ((Qaa l0_0 a1).f2)) = some (r1, r2, r3) := by first | (rw [hy111]; with_reducible exact H) | (have H2_ := (Option.bind_some _ _).symm.trans H; rw [hy111]; with_reducible exact H2_) | (have H2_ := (Option.bind_some _ _).symm.trans H; with_reducible exact H2_) | with_reducible exact H | (rw [hy111]; exact H) | exact H
                     have Ny111 := Aside0.mk hy111
                     clear hy111
                     obtain ⟨y112, hy112⟩ : ∃ y_ : List Int, y_ = (([0] : List Int)) := ⟨_, rfl⟩
                     replace H : (Qak.l1 k2 y111 0 y112 l0_0 ((Qaa l0_0 a1).f0) ((Qaa l0_0 a1).f1) ((Qaa l0_0 a1).f2)) = some (r1, r2, r3) := by first | (rw [hy112]; with_reducible exact H) | (have H2_ := (Option.bind_some _ _).symm.trans H; rw [hy112]; with_reducible exact H2_) | (have H2_ := (Option.bind_some _ _).symm.trans H; with_reducible exact H2_) | with_reducible exact H | (rw [hy112]; exact H) | exact H
                     have Ny112 := Aside0.mk hy112
                     clear hy112
                     have H' := Aside0.mk H
                     clear H
                     have p38 : 0 ≤ (0 : Int) := (by omega)
                     have q38 : (0 : Int) < ((x8_2.length : Int) : Int) := of_decide_eq_true (by first | (with_reducible assumption) | assumption)
                     have qi38 : (0 < x8_2.length) = True := eq_true (by omega)
                     obtain ⟨go38, co38, eo38, gb38, gl38, cl38, HG38⟩ := Kd.R_form HO_8.out (by omega)
                     (first | cases eo38 | (injection eo38 with ea_ en_ ec_; (first | subst ea_ | (injection ea_ with ea_; subst ea_)); subst ec_; clear en_))
                     have GB38 := Aside0.mk gb38
                     have GG38 := Aside0.mk HG38
                     clear gb38 gl38 HG38
                     obtain ⟨hx38_0, hf38_0⟩ := Kd.R_celln 0 HO_8.out (0 : Int) p38 q38
                     (try rw [show ((0 : Int)).toNat = 0 from rfl] at hx38_0)
                     (try simp only [Nat.reduceMul, Nat.zero_mul, Nat.zero_add, Nat.reduceAdd] at hx38_0)
                     (try rw [show ((0 : Int)).toNat = 0 from rfl] at hf38_0)
                     (try simp only [Nat.reduceMul, Nat.zero_mul, Nat.zero_add, Nat.reduceAdd] at hf38_0)
                     replace p38 := eq_true p38
                     replace q38 := eq_true q38
                     have HP39 := Kd.R_putg HO_8.out (0 : Int) 0
                     go_wp2_with (first | ((with_reducible refine Qcb (t := 3) (p := 59) rfl ?_); refine Qb3 (t := 3) (p := 59) (v := ?vo_w40) (w1 := (wr.setCell ⟨go38, (0 : Int).toNat, none⟩ (.int .i64 0))) ?hg ?ho ?hn ?hr ?_; (case ho => rfl); (case hg => rfl); (case hn => rfl); (case hr => first | (go_simp; done) | (go_simp; rfl)); intro w40 hw; have hg : wr.grownBy w40 (some go38) := (by rw [hw]; exact HP39.2); have hp_ : Kd.R (Kd.int .i64) 3 w40 w.heap.size (fun _ => True) (.slice (some ⟨go38, 0, none⟩) x8_2.length co30) y111 := (by rw [hw, Ny111.out]; exact HP39.1); clear HP39; have n0_ := Aside0.mk (hp_); have n1_ := Aside0.mk (QaU (g := gb101) (o := .cells #[.slice (some ad105) l0_0.length c0_0] 25 (0, 0)) (by (refine kb_ ?_); exact BK101.out) hg (Kd.R_ne HO_8.out BK101.out (by decide))); have n2_ := Aside0.mk (QaU (g := gb106) (o := .cells #[.int .i64 ((Qaa l0_0 a1).f0), .int .i64 ((Qaa l0_0 a1).f1), .slice A105_2 ((Qaa l0_0 a1).f2).length c105_2] 34 (0, 0)) (by (refine kb_ ?_); exact BK106.out) hg (Kd.R_ne HO_8.out BK106.out (by decide))); have n3_ := Aside0.mk ((by rw [hw]; exact Qaw (HB.out) GB38.out : Below w.heap.size w w40)); clear HO_8; clear BK101; clear BK106; clear HB; have HO_8 := n0_; have BK101 := n1_; have BK106 := n2_; have HB := n3_; clear n0_ n1_ n2_ n3_; clear hg hw hp_) | ((with_reducible refine QaH (N := 60) rfl ?_); (try (refine Qa8 (by rfl) ?_; dsimp only)); refine Kd.R_lit (Kd.int .i64) _ 3 ?hg (N := 60) ?hd (xs := ([0] : List Int)) (inner := [.int .i64 0]) (ok := fun _ => True) (okp := fun _ => True) ?hr ?hp (fun _ hk => hk) trivial (Below.refl _ _) (Nat.le_refl _) (by simp) ?_; (case hd => rfl); (case hg => rfl); (case hr => first | (go_simp; done) | (go_simp; rfl)); (case hp => exact (Qa9.one (show Kd.M (Kd.int .i64) _ _ _ 0 [.int .i64 0] from rfl) (Qa9.none _ _))); intro v113 w41 ho42 hb hg_ hnew_; clear hg_ hnew_; (first | rw [← Ny112.out] at ho42 | (simp only [Int.reduceToNat] at ho42; rw [← Ny112.out] at ho42)); have n0_ := Aside0.mk (Kd.R_elder' (by (refine QaP ?_); exact HO_8.out) (Kd.R_base ho42) hb); have n1_ := Aside0.mk (Kd.R_lower (Kd.R_new' ho42 (Kd.R_lt (by (refine QaP ?_); exact HO_8.out))) (QaY (bw_))); have n2_ := Aside0.mk (bb_ BK101 hb); have n3_ := Aside0.mk (bb_ BK106 hb); have n4_ := Aside0.mk (Qap (bw_) hb); clear HO_8; clear BK101; clear BK106; clear HB; have HO_8 := n0_; have HO114 := n1_; have BK101 := n2_; have BK106 := n3_; have HB := n4_; clear n0_ n1_ n2_ n3_ n4_; clear hb ho42))
                     go_loopg [10, 11] k2 (fun kq v10 v11 w' => ∃ (x8_3 : List Int) (x10_3 : Int) (x11_3 : List Int), v10 = .int .i64 x10_3 ∧ Aside0 (Qak.l1 kq x8_3 x10_3 x11_3 l0_0 ((Qaa l0_0 a1).f0) ((Qaa l0_0 a1).f1) ((Qaa l0_0 a1).f2) = some (r1, r2, r3)) ∧ Aside0 (kq ≤ k2) ∧ Aside0 (Kd.R (Kd.int .i64) 3 w' w.heap.size (fun k_ => some k_ ≠ (v11 : Value).ownBlock) (.slice (some ⟨go38, 0, none⟩) x8_2.length co30) x8_3) ∧ Aside0 (Kd.Q (Kd.int .i64) 3 w' w.heap.size (fun k_ => some k_ ≠ ((.slice (some ⟨go38, 0, none⟩) x8_2.length co30) : Value).ownBlock) v11 x11_3) ∧ Aside0 (w'.heap[gb101]? = some (.cells #[(.slice (some ad105) l0_0.length c0_0)] 25 (0, 0))) ∧ Aside0 (w'.heap[gb106]? = some (.cells #[.int .i64 ((Qaa l0_0 a1).f0), .int .i64 ((Qaa l0_0 a1).f1), (.slice A105_2 ((Qaa l0_0 a1).f2).length c105_2)] 34 (0, 0))) ∧ Aside0 (Below w.heap.size w w'))
                     case atStart => exact ⟨(y111), (0), (y112), (by first | rfl | (simp; done) | (simp [*]; done)), H', ⟨Nat.le_refl _⟩, ⟨by (try simp only [hl8_2]); (refine QaP ?_); exact Kd.R_mono HO_8.out (fun _ hk => hk.2)⟩, ⟨Kd.Q_of_R (by (try simp only [hl8_2]); (refine QaP ?_); exact Kd.R_mono HO114.out (fun _ hk => hk.2))⟩, ⟨by (try simp only [hl8_2]); (refine kb_ ?_); exact BK101.out⟩, ⟨by (try simp only [hl8_2]); (refine kb_ ?_); exact BK106.out⟩, ⟨bw_⟩⟩
                     case round =>
                      clear H'
                      try clear c1
                      try clear p1
                      try clear q1
                      try clear hx1
                      try clear c2
                      try clear p2
                      try clear c3
                      try clear p3
                      try clear q3
                      try clear hx3
                      try clear qi3
                      try clear hf3
                      try clear c6
                      try clear p6
                      try clear c8
                      try clear c9
                      try clear c9b0
                      try clear c10
                      try clear c10b0
                      try clear p10
                      try clear q10
                      try clear hx10
                      try clear c19
                      try clear c20
                      try clear c20b0
                      try clear c21
                      try clear c21b0
                      try clear c22
                      try clear c22b0
                      try clear c22b1
                      try clear c23
                      try clear c23b0
                      try clear c23b1
                      try clear c24
                      try clear c26
                      try clear c31
                      try clear c31b0
                      try clear c32
                      try clear c32b0
                      try clear c33
                      try clear c33b0
                      try clear p34
                      try clear q34
                      try clear hx34
                      try clear hf34
                      try clear c37
                      try clear c37b0
                      try clear c37b1
                      try clear p38
                      try clear q38
                      try clear hx38
                      try clear qi38
                      try clear hf38
                      try clear hcz11_0
                      try clear hcz13_0
                      try clear hcz14_0
                      try clear hcz16_0
                      try clear hcz17_0
                      try clear hcz24_0
                      try clear hcz27_0
                      try clear hcz27_1
                      try clear hcz27_2
                      try clear hfz11_0
                      try clear hfz13_0
                      try clear hfz14_0
                      try clear hfz16_0
                      try clear hfz17_0
                      try clear hfz24_0
                      try clear hfz27_0
                      try clear hfz27_1
                      try clear hfz27_2
                      try clear hx104_0
                      try clear hx104_1
                      try clear hx104_2
                      try clear hx105_0
                      try clear hx105_1
                      try clear hx105_2
                      try clear hx34_0
                      try clear hx38_0
                      try clear p1
                      try clear p10
                      try clear p104
                      try clear p105
                      try clear p2
                      try clear p34
                      try clear p38
                      try clear p6
                      try clear q1
                      try clear q10
                      try clear q104
                      try clear q105
                      try clear q34
                      try clear q38
                      obtain ⟨x8_3, x10_3, x11_3, rfl, HA, HK3, HO_8, HO_11, BK101, BK106, HB⟩ := hrel
                      have hl8_3 := (Kd.R_reads' HO_8.out).1
                      rw [hl8_3] at HO_8
                      (try simp only [hl8_3])
                      (try simp only [hl8_3] at BK101)
                      (try simp only [hl8_3] at BK106)
                      (try simp only [hl8_3] at HO_11)
                      cases gk with
                      | zero => exact absurd HA.out (by simp [Qak.l1])
                      | succ k3 =>
                        have H := HA.out
                        clear HA
                        simp only [Qak.l1] at H
                        by_cases c43 : (x11_3.length : Int) > 0
                        · rw [if_pos c43] at H
                          have c43b0 : decide (0 < (x11_3.length : Int)) = true := decide_eq_true c43
                          have c43b1 : decide (0 < x11_3.length) = true := decide_eq_true (by omega)
                          clear c43
                          by_cases c44 : 0 < (x11_3.length : Int)
                          · rw [if_pos c44] at H
                            have c44b0 : decide (0 < (x11_3.length : Int)) = true := decide_eq_true c44
                            have c44b1 : decide (0 < x11_3.length) = true := decide_eq_true (by omega)
                            clear c44
                            by_cases c45 : 0 ≤ (rd x11_3 0)
                            · rw [if_pos c45] at H
                              have c45b0 : decide (0 ≤ (rd x11_3 0)) = true := decide_eq_true c45
                              clear c45
                              by_cases c46 : (rd x11_3 0) < (((Qaa l0_0 a1).f2).length : Int)
                              · rw [if_pos c46] at H
                                have c46b0 : decide ((rd x11_3 0) < (((Qaa l0_0 a1).f2).length : Int)) = true := decide_eq_true c46
                                clear c46
                                replace H := Option.bind_eq_some_iff.mp H
                                obtain ⟨⟨t117, t118⟩, A470, H⟩ := H
                                replace H : (if (rd x11_3 0) < (x8_3.length : Int) then (if t117 > (rd x8_3 (rd x11_3 0)) then (Qak.j3 k3 x8_3 x10_3 x11_3 (rd x11_3 0) (wrap64 ((wrap64 ((rd x8_3 (rd x11_3 0)) - t117)) + t118)) true l0_0 ((Qaa l0_0 a1).f0) ((Qaa l0_0 a1).f1) ((Qaa l0_0 a1).f2)) else (Qak.j3 k3 x8_3 x10_3 x11_3 (rd x11_3 0) (wrap64 ((wrap64 ((rd x8_3 (rd x11_3 0)) - t117)) + t118)) (decide ((wrap64 ((wrap64 ((rd x8_3 (rd x11_3 0)) - t117)) + t118)) > 6)) l0_0 ((Qaa l0_0 a1).f0) ((Qaa l0_0 a1).f1) ((Qaa l0_0 a1).f2))) else (none)) = some (r1, r2, r3) := H
                                have A47 := Aside0.mk A470
                                clear A470
                                by_cases c48 : (rd x11_3 0) < (x8_3.length : Int)
                                · rw [if_pos c48] at H
                                  have c48b0 : decide ((rd x11_3 0) < (x8_3.length : Int)) = true := decide_eq_true c48
                                  clear c48
                                  have HC49 := Aside0.mk H
                                  clear H
                                  obtain ⟨Ao50, co50, eo50, _⟩ := Kd.Q_slice HO_11.out
                                  subst eo50
                                  have p115 : 0 ≤ (0 : Int) := (by omega)
                                  have q115 : 0 < (x11_3.length : Int) := of_decide_eq_true (by first | (with_reducible assumption) | assumption)
                                  obtain ⟨ad115, e115, hx115_0⟩ := Kd.at_int (Kd.Q_reads' HO_11.out).2.2 0 p115 q115
                                  cases e115
                                  have qi115 : (0 < x11_3.length) = True := eq_true (by omega)
                                  (try rw [show ((0 : Int)).toNat = 0 from rfl] at hx115_0)
                                  (try rw [Addr.add_zero'] at hx115_0)
                                  replace p115 := eq_true p115
                                  replace q115 := eq_true q115
                                  try go_wp2
                                  have n0_ := Aside0.mk (Kd.R_drew HO_8.out)
                                  have n1_ := Aside0.mk (Kd.Q_drew HO_11.out)
                                  have n2_ := Aside0.mk (Qbf BK101.out)
                                  have n3_ := Aside0.mk (Qbf BK106.out)
                                  have n4_ := Aside0.mk (Qav HB.out)
                                  clear HO_8
                                  clear HO_11
                                  clear BK101
                                  clear BK106
                                  clear HB
                                  have HO_8 := n0_
                                  have HO_11 := n1_
                                  have BK101 := n2_
                                  have BK106 := n3_
                                  have HB := n4_
                                  clear n0_ n1_ n2_ n3_ n4_
                                  have p116 : 0 ≤ ((rd x11_3 0) : Int) := of_decide_eq_true (by first | (with_reducible assumption) | assumption)
                                  have q116 : (rd x11_3 0) < (((Qaa l0_0 a1).f2).length : Int) := of_decide_eq_true (by first | (with_reducible assumption) | assumption)
                                  obtain ⟨ad116, e116, hx116_0, hx116_1⟩ := QbJ HR105_2.out (rd x11_3 0) p116 q116
                                  have hw116_1 := hx116_1
                                  have hw116_0 := hx116_0
                                  cases e116
                                  replace hx116_0 := pc_ HB hx116_0
                                  replace hx116_1 := pc_ HB hx116_1
                                  replace p116 := eq_true p116
                                  replace q116 := eq_true q116
                                  refine Qch (n := 12) (S := fun w' => w'.cell? ⟨gb101, 0, none⟩ = some (.slice (some ad105) l0_0.length c0_0) ∧ w'.cell? ⟨gb106, 0, none⟩ = some (.int .i64 ((Qaa l0_0 a1).f0)) ∧ w'.cell? ⟨gb106, 1, none⟩ = some (.int .i64 ((Qaa l0_0 a1).f1)) ∧ w'.cell? ⟨gb106, 2, none⟩ = some (.slice (some ad116) ((Qaa l0_0 a1).f2).length c105_2) ∧ w'.cell? (ad116.add (((rd x11_3 0)).toNat * 2)) = some (.int .i64 ((Qah ((Qaa l0_0 a1).f2) (rd x11_3 0)).f0)) ∧ w'.cell? ⟨(ad116.add (((rd x11_3 0)).toNat * 2)).block, (ad116.add (((rd x11_3 0)).toNat * 2)).off + 1, none⟩ = some (.int .i64 ((Qah ((Qaa l0_0 a1).f2) (rd x11_3 0)).f1))) (ds := []) #[false, false, false, false, false, false, false, false, false, false, false, false] (by kernel_rfl) rfl rfl ⟨(Qaf BK101.out 0).trans rfl, (Qaf BK106.out 0).trans rfl, (Qaf BK106.out 1).trans rfl, (Qaf BK106.out 2).trans rfl, (pc_ HB hw116_0), (pc_ HB hw116_1)⟩ (fun hHeld => ?_); refine Qby Qak.tab16 Qak.bits16 (fun HT_ HW_ => ?_)
                                  generalize wr.drew = w51 at HO_8 HO_11 BK101 BK106 HB hx116_0 hx116_1 hHeld ⊢
                                  refine pu_ 1 (some 71) #[false, true, false, false, false, false, false, false, false, false, false, false] rfl rfl ?_
                                  refine pu_ 3 (some 73) #[false, true, false, true, false, false, false, false, false, false, false, false] rfl rfl ?_
                                  refine tk_ 0 (some 70) #[true, true, false, true, false, false, false, false, false, false, false, false] rfl rfl hHeld ?_
                                  refine tk_ 2 (some 72) #[true, true, true, true, false, false, false, false, false, false, false, false] rfl rfl hHeld ?_
                                  refine pu_ 4 (some 74) #[true, true, true, true, true, false, false, false, false, false, false, false] rfl rfl ?_
                                  refine tk_ 5 (some 75) #[true, true, true, true, true, true, false, false, false, false, false, false] rfl rfl hHeld ?_
                                  refine one_ (i := 6) (N := some 76) #[true, true, true, true, true, true, true, false, false, false, false, false] rfl rfl (Qbw HT_.out (by kernel_rfl)) (by decide) (fun K hK => ?_)
                                  refine goes_ Try.func104 (by kernel_rfl) rfl #[.agg #[.slice (some ad105) l0_0.length c0_0], .agg #[.int .i64 ((Qah ((Qaa l0_0 a1).f2) (rd x11_3 0)).f0), .int .i64 ((Qah ((Qaa l0_0 a1).f2) (rd x11_3 0)).f1)]] (by rfl) rfl rfl (by (try simp only [List.map_toArray, List.map_cons, List.map_nil]); first | done | rfl | (simp only [List.length_drop, List.length_take]; rfl)) ?_
                                  with_reducible refine (QbM.calls _ _ l0_0 ((Qah ((Qaa l0_0 a1).f2) (rd x11_3 0)).f0) ((Qah ((Qaa l0_0 a1).f2) (rd x11_3 0)).f1) t117 t118 _ ?side1 ?side2 A47.out).mono ?_
                                  (case side1 => exact cb_)
                                  (case side2 => exact HC0_0.out)
                                  rintro e w52 ⟨rfl, hb⟩
                                  refine ⟨_, rfl, ?_⟩
                                  have n0_ := Aside0.mk (Kd.R_below (by (refine QaP ?_); exact HO_8.out) hb)
                                  have n1_ := Aside0.mk (Kd.Q_below (by (refine kdQ_ ?_); exact HO_11.out) hb)
                                  have n2_ := Aside0.mk (bb_ BK101 hb)
                                  have n3_ := Aside0.mk (bb_ BK106 hb)
                                  have n4_ := Aside0.mk (Qap (bw_) hb)
                                  clear HO_8
                                  clear HO_11
                                  clear BK101
                                  clear BK106
                                  clear HB
                                  have HO_8 := n0_
                                  have HO_11 := n1_
                                  have BK101 := n2_
                                  have BK106 := n3_
                                  have HB := n4_
                                  clear n0_ n1_ n2_ n3_ n4_
                                  (try clear hb)
                                  (try clear hb2)
                                  (try clear hk)
                                  (try clear hi)
                                  refine hK.out _ _ ⟨(Qaf BK101.out 0).trans rfl, (Qaf BK106.out 0).trans rfl, (Qaf BK106.out 1).trans rfl, (Qaf BK106.out 2).trans rfl, (pc_ HB hw116_0), (pc_ HB hw116_1)⟩ (fun hHeld => ?_)
                                  clear hK K
                                  refine Qbo (a' := ?_) ?_ ?_
                                  rotate_left
                                  · show Act.put _ (some 76) _ = _
                                    simp only [Act.put, List.setIfInBounds_toArray, List.set_cons_zero, List.set_cons_succ, Qbb, Qbd]
                                    rfl
                                  refine pu_ 7 (some 69) #[true, true, true, true, true, true, true, true, false, false, false, false] rfl rfl ?_
                                  refine pu_ 8 (some 77) #[true, true, true, true, true, true, true, true, true, false, false, false] rfl rfl ?_
                                  refine pu_ 9 (some 78) #[true, true, true, true, true, true, true, true, true, true, false, false] rfl rfl ?_
                                  refine pu_ 10 (some 13) #[true, true, true, true, true, true, true, true, true, true, true, false] rfl rfl ?_
                                  refine pu_ 11 (some 14) #[true, true, true, true, true, true, true, true, true, true, true, true] rfl rfl ?_
                                  refine done_ (QbY HT_.out (by kernel_rfl)) ?_
                                  have p119 : 0 ≤ ((rd x11_3 0) : Int) := of_decide_eq_true (by first | (with_reducible assumption) | assumption)
                                  have q119 : (rd x11_3 0) < (x8_3.length : Int) := of_decide_eq_true (by first | (with_reducible assumption) | assumption)
                                  obtain ⟨ad119, e119, hx119_0⟩ := Kd.at_int (Kd.R_reads' HO_8.out).2.2 (rd x11_3 0) p119 q119
                                  obtain rfl : (⟨go38, 0, none⟩ : Addr) = ad119 := (by injection e119)
                                  (first | simp only [Qbn] at hx119_0 | simp only [Qb1] at hx119_0 | simp only [Addr.add, Nat.zero_add] at hx119_0 | skip)
                                  replace p119 := eq_true p119
                                  replace q119 := eq_true q119
                                  go_upto_region 18 with (fail)
                                  go_cut [96] (fun v96 wc => ∃ (kq : Nat) (x96_48 : Bool), v96 = .bool x96_48 ∧ Aside0 (Qak.j3 kq x8_3 x10_3 x11_3 (rd x11_3 0) (wrap64 ((wrap64 ((rd x8_3 (rd x11_3 0)) - t117)) + t118)) x96_48 l0_0 ((Qaa l0_0 a1).f0) ((Qaa l0_0 a1).f1) ((Qaa l0_0 a1).f2) = some (r1, r2, r3)) ∧ Aside0 (kq ≤ k3) ∧ Aside0 (Kd.R (Kd.int .i64) 3 wc w.heap.size (fun k_ => some k_ ≠ ((.slice (some ad115) x11_3.length co50) : Value).ownBlock) (.slice (some ⟨go38, 0, none⟩) x8_3.length co30) x8_3) ∧ Aside0 (Kd.Q (Kd.int .i64) 3 wc w.heap.size (fun k_ => some k_ ≠ ((.slice (some ⟨go38, 0, none⟩) x8_3.length co30) : Value).ownBlock) (.slice (some ad115) x11_3.length co50) x11_3) ∧ Aside0 (wc.heap[gb101]? = some (.cells #[(.slice (some ad105) l0_0.length c0_0)] 25 (0, 0))) ∧ Aside0 (wc.heap[gb106]? = some (.cells #[.int .i64 ((Qaa l0_0 a1).f0), .int .i64 ((Qaa l0_0 a1).f1), (.slice (some ad116) ((Qaa l0_0 a1).f2).length c105_2)] 34 (0, 0))) ∧ Aside0 (Below w.heap.size w wc))
                                  case first =>
                                   have H := HC49.out
                                   clear HC49
                                   by_cases c53 : t117 > (rd x8_3 (rd x11_3 0))
                                   · rw [if_pos c53] at H
                                     have c53b0 : decide ((rd x8_3 (rd x11_3 0)) < t117) = true := decide_eq_true c53
                                     clear c53
                                     (first | rw [c53b0] | (simp only [Qbb, Qbd]; rw [c53b0]) | skip)
                                     have H' := Aside0.mk H
                                     clear H
                                     have p120 : 0 ≤ ((rd x11_3 0) : Int) := of_decide_eq_true (by first | (with_reducible assumption) | assumption)
                                     have q120 : (rd x11_3 0) < (x8_3.length : Int) := of_decide_eq_true (by first | (with_reducible assumption) | assumption)
                                     obtain ⟨ad120, e120, hx120_0⟩ := Kd.at_int (Kd.R_reads' HO_8.out).2.2 (rd x11_3 0) p120 q120
                                     obtain rfl : (⟨go38, 0, none⟩ : Addr) = ad120 := (by injection e120)
                                     (first | simp only [Qbn] at hx120_0 | simp only [Qb1] at hx120_0 | simp only [Addr.add, Nat.zero_add] at hx120_0 | skip)
                                     replace p120 := eq_true p120
                                     replace q120 := eq_true q120
                                     go_wp2
                                     go_meet
                                     case rel => exact ⟨_, (true), (by first | rfl | (simp; done) | (simp [*]; done)), H', ⟨by have := HJ2.out; have := HK2.out; have := HK3.out; first | omega | exact Nat.le_refl _⟩, ⟨by (try simp only [hl8_2]); (try simp only [hl8_3]); (refine QaP ?_); exact HO_8.out⟩, ⟨by (try simp only [hl8_2]); (try simp only [hl8_3]); (refine kdQ_ ?_); exact HO_11.out⟩, ⟨by (try simp only [hl8_2]); (try simp only [hl8_3]); (refine kb_ ?_); exact BK101.out⟩, ⟨by (try simp only [hl8_2]); (try simp only [hl8_3]); (refine kb_ ?_); exact BK106.out⟩, ⟨bw_⟩⟩
                                   · rw [if_neg c53] at H
                                     have c53b0 : decide ((rd x8_3 (rd x11_3 0)) < t117) = false := decide_eq_false c53
                                     clear c53
                                     (first | rw [c53b0] | (simp only [Qbb, Qbd]; rw [c53b0]) | skip)
                                     have H' := Aside0.mk H
                                     clear H
                                     have p120 : 0 ≤ ((rd x11_3 0) : Int) := of_decide_eq_true (by first | (with_reducible assumption) | assumption)
                                     have q120 : (rd x11_3 0) < (x8_3.length : Int) := of_decide_eq_true (by first | (with_reducible assumption) | assumption)
                                     obtain ⟨ad120, e120, hx120_0⟩ := Kd.at_int (Kd.R_reads' HO_8.out).2.2 (rd x11_3 0) p120 q120
                                     obtain rfl : (⟨go38, 0, none⟩ : Addr) = ad120 := (by injection e120)
                                     (first | simp only [Qbn] at hx120_0 | simp only [Qb1] at hx120_0 | simp only [Addr.add, Nat.zero_add] at hx120_0 | skip)
                                     replace p120 := eq_true p120
                                     replace q120 := eq_true q120
                                     go_wp2
                                     go_meet
                                     case rel => exact ⟨_, (decide ((wrap64 ((wrap64 ((rd x8_3 (rd x11_3 0)) - t117)) + t118)) > 6)), (by first | rfl | (simp; done) | (simp [*]; done)), H', ⟨by have := HJ2.out; have := HK2.out; have := HK3.out; first | omega | exact Nat.le_refl _⟩, ⟨by (try simp only [hl8_2]); (try simp only [hl8_3]); (refine QaP ?_); exact HO_8.out⟩, ⟨by (try simp only [hl8_2]); (try simp only [hl8_3]); (refine kdQ_ ?_); exact HO_11.out⟩, ⟨by (try simp only [hl8_2]); (try simp only [hl8_3]); (refine kb_ ?_); exact BK101.out⟩, ⟨by (try simp only [hl8_2]); (try simp only [hl8_3]); (refine kb_ ?_); exact BK106.out⟩, ⟨bw_⟩⟩
                                  case rest =>
                                   clear HC49
                                   try clear c1
                                   try clear p1
                                   try clear q1
                                   try clear hx1
                                   try clear qi1
                                   try clear c2
                                   try clear p2
                                   try clear c3
                                   try clear p3
                                   try clear q3
                                   try clear hx3
                                   try clear qi3
                                   try clear hf3
                                   try clear c4
                                   try clear c5
                                   try clear c6
                                   try clear p6
                                   try clear c8
                                   try clear c9
                                   try clear c9b0
                                   try clear c10
                                   try clear c10b0
                                   try clear p10
                                   try clear q10
                                   try clear hx10
                                   try clear p11
                                   try clear q11
                                   try clear hx11
                                   try clear qi11
                                   try clear p12
                                   try clear q12
                                   try clear hx12
                                   try clear c19
                                   try clear c20
                                   try clear c20b0
                                   try clear c21
                                   try clear c21b0
                                   try clear c22
                                   try clear c22b0
                                   try clear c22b1
                                   try clear c23
                                   try clear c23b0
                                   try clear c23b1
                                   try clear c24
                                   try clear c26
                                   try clear c31
                                   try clear c31b0
                                   try clear c32
                                   try clear c32b0
                                   try clear c33
                                   try clear c33b0
                                   try clear p34
                                   try clear q34
                                   try clear hx34
                                   try clear hf34
                                   try clear c37
                                   try clear c37b0
                                   try clear c37b1
                                   try clear p38
                                   try clear q38
                                   try clear hx38
                                   try clear qi38
                                   try clear hf38
                                   try clear c43
                                   try clear c43b0
                                   try clear c43b1
                                   try clear c44
                                   try clear c44b0
                                   try clear c44b1
                                   try clear c45
                                   try clear c45b0
                                   try clear c46
                                   try clear c46b0
                                   try clear c48
                                   try clear c48b0
                                   try clear c53
                                   try clear c53b0
                                   try clear hcz11_0
                                   try clear hcz13_0
                                   try clear hcz14_0
                                   try clear hcz16_0
                                   try clear hcz17_0
                                   try clear hcz24_0
                                   try clear hcz27_0
                                   try clear hcz27_1
                                   try clear hcz27_2
                                   try clear hfz11_0
                                   try clear hfz13_0
                                   try clear hfz14_0
                                   try clear hfz16_0
                                   try clear hfz17_0
                                   try clear hfz24_0
                                   try clear hfz27_0
                                   try clear hfz27_1
                                   try clear hfz27_2
                                   try clear hx104_0
                                   try clear hx104_1
                                   try clear hx104_2
                                   try clear hx105_0
                                   try clear hx105_1
                                   try clear hx105_2
                                   try clear hx115_0
                                   try clear hx116_0
                                   try clear hx116_1
                                   try clear hx119_0
                                   try clear hx120_0
                                   try clear hx34_0
                                   try clear hx38_0
                                   try clear p1
                                   try clear p10
                                   try clear p104
                                   try clear p105
                                   try clear p115
                                   try clear p116
                                   try clear p119
                                   try clear p120
                                   try clear p2
                                   try clear p3
                                   try clear p34
                                   try clear p38
                                   try clear p6
                                   try clear q1
                                   try clear q10
                                   try clear q104
                                   try clear q105
                                   try clear q115
                                   try clear q116
                                   try clear q119
                                   try clear q120
                                   try clear q3
                                   try clear q34
                                   try clear q38
                                   obtain ⟨kq, x96_48, rfl, HA, HJ48, HO_8, HO_11, BK101, BK106, HB⟩ := hcut
                                   cases kq with
                                   | zero => exact absurd HA.out (by simp [Qak.j3])
                                   | succ kj48 =>
                                     have H := HA.out
                                     clear HA
                                     simp only [Qak.j3] at H
                                     by_cases c54 : x96_48 = true
                                     · subst c54
                                       have H1 : (some (([] : List Int), 0, false)) = some (r1, r2, r3) := by rw [if_pos rfl] at H; exact H
                                       clear H
                                       have H := H1
                                       clear H1
                                       simp only [Option.some.injEq, Prod.mk.injEq] at H
                                       obtain ⟨rfl, rfl, rfl⟩ := H
                                       go_wp2
                                       go_ret3
                                       exact ⟨_, by first | rfl | (simp [Qan, Qao] <;> rfl) | (simp [*, Qan, Qao] <;> rfl), by first | exact Kd.R_nil _ _ _ _ _ | exact Kd.N_nil _ _ _ _ _ | exact Kd.V_nil _ _ _ _ _ | exact Kd.Q_nil _ _ _ _ _ | exact Kd.S_nil _ _ _ _ _, bw_⟩
                                     · replace c54 := Bool.eq_false_iff.mpr c54
                                       subst c54
                                       have H1 : (if 0 ≤ (rd x11_3 0) then (if (rd x11_3 0) < (x8_3.length : Int) then ((Qbg.f ((Qaa l0_0 a1).f0) ((Qaa l0_0 a1).f1) ((Qaa l0_0 a1).f2) (rd x11_3 0)).bind fun t122 => (Qak.l2 kj48 x8_3 (mx (mx x10_3 (rd x8_3 (rd x11_3 0))) (wrap64 ((wrap64 ((rd x8_3 (rd x11_3 0)) - t117)) + t118))) x11_3 (wrap64 ((wrap64 ((rd x8_3 (rd x11_3 0)) - t117)) + t118)) t122 (t122.length : Int) 0 l0_0 ((Qaa l0_0 a1).f0) ((Qaa l0_0 a1).f1) ((Qaa l0_0 a1).f2))) else (none)) else (none)) = some (r1, r2, r3) := by rw [if_neg (show ¬ (false = true) by decide)] at H; exact H
                                       clear H
                                       have H := H1
                                       clear H1
                                       by_cases c55 : 0 ≤ (rd x11_3 0)
                                       · rw [if_pos c55] at H
                                         have c55b0 : decide (0 ≤ (rd x11_3 0)) = true := decide_eq_true c55
                                         clear c55
                                         by_cases c56 : (rd x11_3 0) < (x8_3.length : Int)
                                         · rw [if_pos c56] at H
                                           have c56b0 : decide ((rd x11_3 0) < (x8_3.length : Int)) = true := decide_eq_true c56
                                           clear c56
                                           obtain ⟨ji57, hji57⟩ : ∃ j_ : Int, (mx x10_3 (rd x8_3 (rd x11_3 0))) = j_ := ⟨_, rfl⟩
                                           replace H : ((Qbg.f ((Qaa l0_0 a1).f0) ((Qaa l0_0 a1).f1) ((Qaa l0_0 a1).f2) (rd x11_3 0)).bind fun t122 => (Qak.l2 kj48 x8_3 (mx (ji57) (wrap64 ((wrap64 ((rd x8_3 (rd x11_3 0)) - t117)) + t118))) x11_3 (wrap64 ((wrap64 ((rd x8_3 (rd x11_3 0)) - t117)) + t118)) t122 (t122.length : Int) 0 l0_0 ((Qaa l0_0 a1).f0) ((Qaa l0_0 a1).f1) ((Qaa l0_0 a1).f2))) = some (r1, r2, r3) := by first | (rw [hji57] at H; exact H) | (simp only [hji57] at H ⊢; exact H)
                                           have hji57_ : (if x10_3 < (rd x8_3 (rd x11_3 0)) then (rd x8_3 (rd x11_3 0)) else x10_3) = ji57 := hji57
                                           obtain ⟨ji58, hji58⟩ : ∃ j_ : Int, (mx (ji57) (wrap64 ((wrap64 ((rd x8_3 (rd x11_3 0)) - t117)) + t118))) = j_ := ⟨_, rfl⟩
                                           replace H : ((Qbg.f ((Qaa l0_0 a1).f0) ((Qaa l0_0 a1).f1) ((Qaa l0_0 a1).f2) (rd x11_3 0)).bind fun t122 => (Qak.l2 kj48 x8_3 ji58 x11_3 (wrap64 ((wrap64 ((rd x8_3 (rd x11_3 0)) - t117)) + t118)) t122 (t122.length : Int) 0 l0_0 ((Qaa l0_0 a1).f0) ((Qaa l0_0 a1).f1) ((Qaa l0_0 a1).f2))) = some (r1, r2, r3) := by first | (rw [hji58] at H; exact H) | (simp only [hji58] at H ⊢; exact H)
                                           have hji58_ : (if (ji57) < (wrap64 ((wrap64 ((rd x8_3 (rd x11_3 0)) - t117)) + t118)) then (wrap64 ((wrap64 ((rd x8_3 (rd x11_3 0)) - t117)) + t118)) else (ji57)) = ji58 := hji58
                                           replace H := Option.bind_eq_some_iff.mp H
                                           obtain ⟨t122, A590, H⟩ := H
                                           replace H : (Qak.l2 kj48 x8_3 ji58 x11_3 (wrap64 ((wrap64 ((rd x8_3 (rd x11_3 0)) - t117)) + t118)) t122 (t122.length : Int) 0 l0_0 ((Qaa l0_0 a1).f0) ((Qaa l0_0 a1).f1) ((Qaa l0_0 a1).f2)) = some (r1, r2, r3) := H
                                           have A59 := Aside0.mk A590
                                           clear A590
                                           have H' := Aside0.mk H
                                           clear H
                                           have p121 : 0 ≤ ((rd x11_3 0) : Int) := of_decide_eq_true (by first | (with_reducible assumption) | assumption)
                                           have q121 : (rd x11_3 0) < (x8_3.length : Int) := of_decide_eq_true (by first | (with_reducible assumption) | assumption)
                                           obtain ⟨ad121, e121, hx121_0⟩ := Kd.at_int (Kd.R_reads' HO_8.out).2.2 (rd x11_3 0) p121 q121
                                           obtain rfl : (⟨go38, 0, none⟩ : Addr) = ad121 := (by injection e121)
                                           (first | simp only [Qbn] at hx121_0 | simp only [Qb1] at hx121_0 | simp only [Addr.add, Nat.zero_add] at hx121_0 | skip)
                                           replace p121 := eq_true p121
                                           replace q121 := eq_true q121
                                           have hnb60 := NB106_101.out
                                           have hnc60 := NB101_106.out
                                           have hcz61_0 : wc.cell? ⟨gb106, 0, none⟩ = some (.int .i64 ((Qaa l0_0 a1).f0)) := (Qaf BK106.out 0).trans rfl
                                           have hcz61_1 : wc.cell? ⟨gb106, 1, none⟩ = some (.int .i64 ((Qaa l0_0 a1).f1)) := (Qaf BK106.out 1).trans rfl
                                           have hcz61_2 : wc.cell? ⟨gb106, 2, none⟩ = some (.slice (some ad116) ((Qaa l0_0 a1).f2).length c105_2) := (Qaf BK106.out 2).trans rfl
                                           have hfz61_0 := Qaj BK106.out 0
                                           have hfz61_1 := Qaj BK106.out 1
                                           have hfz61_2 := Qaj BK106.out 2
                                           go_wp2_with (first | ((with_reducible refine Qax (f := 105) rfl ?_); refine QaX (some 106) rfl rfl Try.func105 (by kernel_rfl) rfl #[.agg #[.int .i64 ((Qaa l0_0 a1).f0), .int .i64 ((Qaa l0_0 a1).f1), .slice (some ad116) ((Qaa l0_0 a1).f2).length c105_2], .int .i64 (rd x11_3 0)] rfl (by (try simp only [List.map_toArray, List.map_cons, List.map_nil]); first | done | rfl | (simp only [List.length_drop, List.length_take]; rfl)) ?_; (with_reducible refine (Qbg.calls ((Qaa l0_0 a1).f0) ((Qaa l0_0 a1).f1) _ _ ((Qaa l0_0 a1).f2) (rd x11_3 0) t122 _ ?side1 ?side2 A59.out).mono ?_); (case side1 => exact cb_); (case side2 => exact HC105_2.out); rintro e w62 ⟨v123, rfl, ho0, hb⟩; refine ⟨_, rfl, ?_⟩; have n0_ := Aside0.mk (Kd.R_elder' (by (refine QaP ?_); exact HO_8.out) (Kd.R_base ho0) hb); have n1_ := Aside0.mk (Kd.Q_elder' (by (refine kdQ_ ?_); exact HO_11.out) (Kd.R_base ho0) hb); have n2_ := Aside0.mk (Kd.R_lower (Kd.R_new' (Kd.R_new' ho0 (Kd.R_lt (by (refine QaP ?_); exact HO_8.out))) (Kd.Q_lt (by (refine kdQ_ ?_); exact HO_11.out))) (QaY (bw_))); have n3_ := Aside0.mk (bb_ BK101 hb); have n4_ := Aside0.mk (bb_ BK106 hb); have n5_ := Aside0.mk (Qap (bw_) hb); clear HO_8; clear HO_11; clear BK101; clear BK106; clear HB; have HO_8 := n0_; have HO_11 := n1_; have HO124 := n2_; have BK101 := n3_; have BK106 := n4_; have HB := n5_; clear n0_ n1_ n2_ n3_ n4_ n5_; (try clear hb); (try clear hb2); (try clear hk); (try clear hi); (try clear ho0); obtain ⟨Ao63, co63, eo63⟩ := Kd.R_slice HO124.out; subst eo63))
                                           go_loopg [11, 108] kj48 (fun kq v11 v108 w' => ∃ (x8_5 : List Int) (x11_5 : List Int) (x108_5 : Int), v108 = .int .i64 x108_5 ∧ Aside0 (Qak.l2 kq x8_5 ji58 x11_5 (wrap64 ((wrap64 ((rd x8_3 (rd x11_3 0)) - t117)) + t118)) t122 (t122.length : Int) x108_5 l0_0 ((Qaa l0_0 a1).f0) ((Qaa l0_0 a1).f1) ((Qaa l0_0 a1).f2) = some (r1, r2, r3)) ∧ Aside0 (kq ≤ kj48) ∧ Aside0 (Kd.R (Kd.int .i64) 3 w' w.heap.size (fun k_ => some k_ ≠ (v11 : Value).ownBlock ∧ some k_ ≠ ((.slice Ao63 t122.length co63) : Value).ownBlock) (.slice (some ⟨go38, 0, none⟩) x8_3.length co30) x8_5) ∧ Aside0 (Kd.Q (Kd.int .i64) 3 w' w.heap.size (fun k_ => some k_ ≠ ((.slice (some ⟨go38, 0, none⟩) x8_3.length co30) : Value).ownBlock ∧ some k_ ≠ ((.slice Ao63 t122.length co63) : Value).ownBlock) v11 x11_5) ∧ Aside0 (Kd.R (Kd.int .i64) 3 w' w.heap.size (fun k_ => some k_ ≠ ((.slice (some ⟨go38, 0, none⟩) x8_3.length co30) : Value).ownBlock ∧ some k_ ≠ (v11 : Value).ownBlock) (.slice Ao63 t122.length co63) t122) ∧ Aside0 (w'.heap[gb101]? = some (.cells #[(.slice (some ad105) l0_0.length c0_0)] 25 (0, 0))) ∧ Aside0 (w'.heap[gb106]? = some (.cells #[.int .i64 ((Qaa l0_0 a1).f0), .int .i64 ((Qaa l0_0 a1).f1), (.slice (some ad116) ((Qaa l0_0 a1).f2).length c105_2)] 34 (0, 0))) ∧ Aside0 (Below w.heap.size w w'))
                                           case atStart => exact ⟨(x8_3), (x11_3), (0), (by first | rfl | (simp; done) | (simp [*]; done)), H', ⟨Nat.le_refl _⟩, ⟨by (try simp only [hl8_2]); (try simp only [hl8_3]); (refine QaP ?_); exact HO_8.out⟩, ⟨by (try simp only [hl8_2]); (try simp only [hl8_3]); (refine kdQ_ ?_); exact HO_11.out⟩, ⟨by (try simp only [hl8_2]); (try simp only [hl8_3]); (refine QaP ?_); exact Kd.R_mono HO124.out (fun _ hk => ⟨hk.1.2, hk.2⟩)⟩, ⟨by (try simp only [hl8_2]); (try simp only [hl8_3]); (refine kb_ ?_); exact BK101.out⟩, ⟨by (try simp only [hl8_2]); (try simp only [hl8_3]); (refine kb_ ?_); exact BK106.out⟩, ⟨bw_⟩⟩
                                           case round =>
                                            clear H'
                                            try clear c1
                                            try clear p1
                                            try clear q1
                                            try clear hx1
                                            try clear qi1
                                            try clear c2
                                            try clear p2
                                            try clear c3
                                            try clear p3
                                            try clear q3
                                            try clear hx3
                                            try clear qi3
                                            try clear hf3
                                            try clear c4
                                            try clear c5
                                            try clear c6
                                            try clear p6
                                            try clear c8
                                            try clear c9
                                            try clear c9b0
                                            try clear c10
                                            try clear c10b0
                                            try clear p10
                                            try clear q10
                                            try clear hx10
                                            try clear p11
                                            try clear q11
                                            try clear hx11
                                            try clear qi11
                                            try clear p12
                                            try clear q12
                                            try clear hx12
                                            try clear c19
                                            try clear c20
                                            try clear c20b0
                                            try clear c21
                                            try clear c21b0
                                            try clear c22
                                            try clear c22b0
                                            try clear c22b1
                                            try clear c23
                                            try clear c23b0
                                            try clear c23b1
                                            try clear c24
                                            try clear c26
                                            try clear c31
                                            try clear c31b0
                                            try clear c32
                                            try clear c32b0
                                            try clear c33
                                            try clear c33b0
                                            try clear p34
                                            try clear q34
                                            try clear hx34
                                            try clear hf34
                                            try clear c37
                                            try clear c37b0
                                            try clear c37b1
                                            try clear p38
                                            try clear q38
                                            try clear hx38
                                            try clear qi38
                                            try clear hf38
                                            try clear c43
                                            try clear c43b0
                                            try clear c43b1
                                            try clear c44
                                            try clear c44b0
                                            try clear c44b1
                                            try clear c45
                                            try clear c45b0
                                            try clear c46
                                            try clear c46b0
                                            try clear c48
                                            try clear c48b0
                                            try clear c53
                                            try clear c53b0
                                            try clear c54
                                            try clear c55
                                            try clear c55b0
                                            try clear c56
                                            try clear c56b0
                                            try clear c60
                                            try clear hcz11_0
                                            try clear hcz13_0
                                            try clear hcz14_0
                                            try clear hcz16_0
                                            try clear hcz17_0
                                            try clear hcz24_0
                                            try clear hcz27_0
                                            try clear hcz27_1
                                            try clear hcz27_2
                                            try clear hcz61_0
                                            try clear hcz61_1
                                            try clear hcz61_2
                                            try clear hfz11_0
                                            try clear hfz13_0
                                            try clear hfz14_0
                                            try clear hfz16_0
                                            try clear hfz17_0
                                            try clear hfz24_0
                                            try clear hfz27_0
                                            try clear hfz27_1
                                            try clear hfz27_2
                                            try clear hfz61_0
                                            try clear hfz61_1
                                            try clear hfz61_2
                                            try clear hx104_0
                                            try clear hx104_1
                                            try clear hx104_2
                                            try clear hx105_0
                                            try clear hx105_1
                                            try clear hx105_2
                                            try clear hx115_0
                                            try clear hx116_0
                                            try clear hx116_1
                                            try clear hx119_0
                                            try clear hx120_0
                                            try clear hx121_0
                                            try clear hx34_0
                                            try clear hx38_0
                                            try clear p1
                                            try clear p10
                                            try clear p104
                                            try clear p105
                                            try clear p11
                                            try clear p115
                                            try clear p116
                                            try clear p119
                                            try clear p12
                                            try clear p120
                                            try clear p121
                                            try clear p2
                                            try clear p3
                                            try clear p34
                                            try clear p38
                                            try clear p6
                                            try clear q1
                                            try clear q10
                                            try clear q104
                                            try clear q105
                                            try clear q11
                                            try clear q115
                                            try clear q116
                                            try clear q119
                                            try clear q12
                                            try clear q120
                                            try clear q121
                                            try clear q3
                                            try clear q34
                                            try clear q38
                                            obtain ⟨x8_5, x11_5, x108_5, rfl, HA, HK5, HO_8, HO_11, HO_106, BK101, BK106, HB⟩ := hrel
                                            have hl8_5 := (Kd.R_reads' HO_8.out).1
                                            rw [hl8_5] at HO_8
                                            (try simp only [hl8_5])
                                            (try simp only [hl8_5] at BK101)
                                            (try simp only [hl8_5] at BK106)
                                            (try simp only [hl8_5] at HO_11)
                                            (try simp only [hl8_5] at HO_106)
                                            cases gk with
                                            | zero => exact absurd HA.out (by simp [Qak.l2])
                                            | succ k5 =>
                                              have H := HA.out
                                              clear HA
                                              simp only [Qak.l2] at H
                                              by_cases c64 : x108_5 < (t122.length : Int)
                                              · rw [if_pos c64] at H
                                                have c64b0 : decide (x108_5 < (t122.length : Int)) = true := decide_eq_true c64
                                                clear c64
                                                by_cases c65 : 0 ≤ x108_5
                                                · rw [if_pos c65] at H
                                                  have c65b0 : decide (0 ≤ x108_5) = true := decide_eq_true c65
                                                  clear c65
                                                  by_cases c66 : x108_5 < (t122.length : Int)
                                                  · rw [if_pos c66] at H
                                                    have c66b0 : decide (x108_5 < (t122.length : Int)) = true := decide_eq_true c66
                                                    clear c66
                                                    by_cases c67 : (rd t122 x108_5) ≥ (((Qaa l0_0 a1).f2).length : Int)
                                                    · rw [if_pos c67] at H
                                                      have c67b0 : decide ((((Qaa l0_0 a1).f2).length : Int) ≤ (rd t122 x108_5)) = true := decide_eq_true c67
                                                      clear c67
                                                      simp only [Option.some.injEq, Prod.mk.injEq] at H
                                                      obtain ⟨rfl, rfl, rfl⟩ := H
                                                      have p128 : 0 ≤ (x108_5 : Int) := of_decide_eq_true (by first | (with_reducible assumption) | assumption)
                                                      have q128 : x108_5 < (t122.length : Int) := of_decide_eq_true (by first | (with_reducible assumption) | assumption)
                                                      obtain ⟨ad128, e128, hx128_0⟩ := Kd.at_int (Kd.R_reads' HO_106.out).2.2 x108_5 p128 q128
                                                      cases e128
                                                      replace p128 := eq_true p128
                                                      replace q128 := eq_true q128
                                                      have hnb68 := NB106_101.out
                                                      have hnc68 := NB101_106.out
                                                      have hcz69_0 : wr.cell? ⟨gb106, 0, none⟩ = some (.int .i64 ((Qaa l0_0 a1).f0)) := (Qaf BK106.out 0).trans rfl
                                                      have hcz69_1 : wr.cell? ⟨gb106, 1, none⟩ = some (.int .i64 ((Qaa l0_0 a1).f1)) := (Qaf BK106.out 1).trans rfl
                                                      have hcz69_2 : wr.cell? ⟨gb106, 2, none⟩ = some (.slice (some ad116) ((Qaa l0_0 a1).f2).length c105_2) := (Qaf BK106.out 2).trans rfl
                                                      have hfz69_0 := Qaj BK106.out 0
                                                      have hfz69_1 := Qaj BK106.out 1
                                                      have hfz69_2 := Qaj BK106.out 2
                                                      go_wp2
                                                      go_ret3
                                                      exact ⟨_, by first | rfl | (simp [Qan, Qao] <;> rfl) | (simp only [← hji57, ← hji58]; first | rfl | (simp [Qan, Qao] <;> rfl)) | (simp [*, Qan, Qao] <;> rfl), by first | exact Kd.R_nil _ _ _ _ _ | exact Kd.N_nil _ _ _ _ _ | exact Kd.V_nil _ _ _ _ _ | exact Kd.Q_nil _ _ _ _ _ | exact Kd.S_nil _ _ _ _ _, bw_⟩
                                                    · rw [if_neg c67] at H
                                                      have c67b0 : decide ((((Qaa l0_0 a1).f2).length : Int) ≤ (rd t122 x108_5)) = false := decide_eq_false c67
                                                      clear c67
                                                      by_cases c70 : 0 ≤ (rd t122 x108_5)
                                                      · rw [if_pos c70] at H
                                                        have c70b0 : decide (0 ≤ (rd t122 x108_5)) = true := decide_eq_true c70
                                                        clear c70
                                                        by_cases c71 : (rd t122 x108_5) < (x8_5.length : Int)
                                                        · rw [if_pos c71] at H
                                                          have c71b0 : decide ((rd t122 x108_5) < (x8_5.length : Int)) = true := decide_eq_true c71
                                                          clear c71
                                                          by_cases c72 : (rd x8_5 (rd t122 x108_5)) < 0
                                                          · rw [if_pos c72] at H
                                                            have c72b0 : decide ((rd x8_5 (rd t122 x108_5)) < 0) = true := decide_eq_true c72
                                                            clear c72
                                                            obtain ⟨y130, hy130⟩ : ∃ y_ : List Int, y_ = (x8_5.set ((rd t122 x108_5) : Int).toNat (wrap64 ((wrap64 ((rd x8_3 (rd x11_3 0)) - t117)) + t118))) := ⟨_, rfl⟩
                                                            replace H : (if x11_5.length < 17592186044416 then (Qak.l2 k5 y130 ji58 (x11_5 ++ [rd t122 x108_5]) (wrap64 ((wrap64 ((rd x8_3 (rd x11_3 0)) - t117)) + t118)) t122 (t122.length : Int) (wrap64 (x108_5 + 1)) l0_0 ((Qaa l0_0 a1).f0) ((Qaa l0_0 a1).f1) ((Qaa l0_0 a1).f2)) else (none)) = some (r1, r2, r3) := by first | (rw [hy130]; with_reducible exact H) | (have H2_ := (Option.bind_some _ _).symm.trans H; rw [hy130]; with_reducible exact H2_) | (have H2_ := (Option.bind_some _ _).symm.trans H; with_reducible exact H2_) | with_reducible exact H | (rw [hy130]; exact H) | exact H
                                                            have Ny130 := Aside0.mk hy130
                                                            clear hy130
                                                            by_cases c74 : x11_5.length < 17592186044416
                                                            · rw [if_pos c74] at H
                                                              have LMc74 := Aside0.mk c74
                                                              clear c74
                                                              obtain ⟨y131, hy131⟩ : ∃ y_ : List Int, y_ = (x11_5 ++ [rd t122 x108_5]) := ⟨_, rfl⟩
                                                              replace H : (Qak.l2 k5 y130 ji58 y131 (wrap64 ((wrap64 ((rd x8_3 (rd x11_3 0)) - t117)) + t118)) t122 (t122.length : Int) (wrap64 (x108_5 + 1)) l0_0 ((Qaa l0_0 a1).f0) ((Qaa l0_0 a1).f1) ((Qaa l0_0 a1).f2)) = some (r1, r2, r3) := by first | (rw [hy131]; with_reducible exact H) | (have H2_ := (Option.bind_some _ _).symm.trans H; rw [hy131]; with_reducible exact H2_) | (have H2_ := (Option.bind_some _ _).symm.trans H; with_reducible exact H2_) | with_reducible exact H | (rw [hy131]; exact H) | exact H
                                                              have Ny131 := Aside0.mk hy131
                                                              clear hy131
                                                              have H' := Aside0.mk H
                                                              clear H
                                                              have p128 : 0 ≤ (x108_5 : Int) := of_decide_eq_true (by first | (with_reducible assumption) | assumption)
                                                              have q128 : x108_5 < (t122.length : Int) := of_decide_eq_true (by first | (with_reducible assumption) | assumption)
                                                              obtain ⟨ad128, e128, hx128_0⟩ := Kd.at_int (Kd.R_reads' HO_106.out).2.2 x108_5 p128 q128
                                                              cases e128
                                                              replace p128 := eq_true p128
                                                              replace q128 := eq_true q128
                                                              have hnb75 := NB106_101.out
                                                              have hnc75 := NB101_106.out
                                                              have hcz76_0 : wr.cell? ⟨gb106, 0, none⟩ = some (.int .i64 ((Qaa l0_0 a1).f0)) := (Qaf BK106.out 0).trans rfl
                                                              have hcz76_1 : wr.cell? ⟨gb106, 1, none⟩ = some (.int .i64 ((Qaa l0_0 a1).f1)) := (Qaf BK106.out 1).trans rfl
                                                              have hcz76_2 : wr.cell? ⟨gb106, 2, none⟩ = some (.slice (some ad116) ((Qaa l0_0 a1).f2).length c105_2) := (Qaf BK106.out 2).trans rfl
                                                              have hfz76_0 := Qaj BK106.out 0
                                                              have hfz76_1 := Qaj BK106.out 1
                                                              have hfz76_2 := Qaj BK106.out 2
                                                              have p129 : 0 ≤ ((rd t122 x108_5) : Int) := of_decide_eq_true (by first | (with_reducible assumption) | assumption)
                                                              have q129 : (rd t122 x108_5) < (x8_5.length : Int) := of_decide_eq_true (by first | (with_reducible assumption) | assumption)
                                                              obtain ⟨ad129, e129, hx129_0⟩ := Kd.at_int (Kd.R_reads' HO_8.out).2.2 (rd t122 x108_5) p129 q129
                                                              obtain rfl : (⟨go38, 0, none⟩ : Addr) = ad129 := (by injection e129)
                                                              (first | simp only [Qbn] at hx129_0 | simp only [Qb1] at hx129_0 | simp only [Addr.add, Nat.zero_add] at hx129_0 | skip)
                                                              replace p129 := eq_true p129
                                                              replace q129 := eq_true q129
                                                              have p73 : 0 ≤ ((rd t122 x108_5) : Int) := of_decide_eq_true (by first | (with_reducible assumption) | assumption)
                                                              have q73 : ((rd t122 x108_5) : Int) < ((x8_5.length : Int) : Int) := of_decide_eq_true (by first | (with_reducible assumption) | assumption)
                                                              obtain ⟨hx73_0, hf73_0⟩ := Kd.R_celln 0 HO_8.out ((rd t122 x108_5) : Int) p73 q73
                                                              replace p73 := eq_true p73
                                                              replace q73 := eq_true q73
                                                              have HP77 := Kd.R_putg HO_8.out ((rd t122 x108_5) : Int) (wrap64 ((wrap64 ((rd x8_3 (rd x11_3 0)) - t117)) + t118))
                                                              go_wp2_with (first | ((with_reducible refine Qcb (t := 3) (p := 127) rfl ?_); refine Qb3 (t := 3) (p := 127) (v := ?vo_w78) (w1 := (wr.setCell ⟨go38, ((rd t122 x108_5) : Int).toNat, none⟩ (.int .i64 (wrap64 ((wrap64 ((rd x8_3 (rd x11_3 0)) - t117)) + t118))))) ?hg ?ho ?hn ?hr ?_; (case ho => rfl); (case hg => rfl); (case hn => rfl); (case hr => first | (go_simp; done) | (go_simp; rfl)); intro w78 hw; have hg : wr.grownBy w78 (some go38) := (by rw [hw]; exact HP77.2); have hp_ : Kd.R (Kd.int .i64) 3 w78 w.heap.size (fun k_ => some k_ ≠ (u11 : Value).ownBlock ∧ some k_ ≠ (.slice (some ad128) t122.length co63 : Value).ownBlock) (.slice (some ⟨go38, 0, none⟩) x8_5.length co30) y130 := (by rw [hw, Ny130.out]; exact HP77.1); clear HP77; have n0_ := Aside0.mk (hp_); have n1_ := Aside0.mk (Kd.Q_after (v := (.slice (some ⟨go38, 0, none⟩) x8_5.length co30)) (v1 := (.slice (some ⟨go38, 0, none⟩) x8_5.length co30)) (ok := (fun k_ => some k_ ≠ (.slice (some ad128) t122.length co63 : Value).ownBlock)) (by (refine kdQ_ ?_); exact Kd.Q_mono HO_11.out (fun _ hk => ⟨hk.2, hk.1⟩)) hg (.inl rfl)); have n2_ := Aside0.mk (Kd.R_after (v := (.slice (some ⟨go38, 0, none⟩) x8_5.length co30)) (v1 := (.slice (some ⟨go38, 0, none⟩) x8_5.length co30)) (ok := (fun k_ => some k_ ≠ (u11 : Value).ownBlock)) (by (refine QaP ?_); exact Kd.R_mono HO_106.out (fun _ hk => ⟨hk.2, hk.1⟩)) hg (.inl rfl)); have n3_ := Aside0.mk (QaU (g := gb101) (o := .cells #[.slice (some ad105) l0_0.length c0_0] 25 (0, 0)) (by (refine kb_ ?_); exact BK101.out) hg (Kd.R_ne HO_8.out BK101.out (by decide))); have n4_ := Aside0.mk (QaU (g := gb106) (o := .cells #[.int .i64 ((Qaa l0_0 a1).f0), .int .i64 ((Qaa l0_0 a1).f1), .slice (some ad116) ((Qaa l0_0 a1).f2).length c105_2] 34 (0, 0)) (by (refine kb_ ?_); exact BK106.out) hg (Kd.R_ne HO_8.out BK106.out (by decide))); have n5_ := Aside0.mk ((by rw [hw]; exact Qaw (HB.out) GB38.out : Below w.heap.size w w78)); clear HO_8; clear HO_11; clear HO_106; clear BK101; clear BK106; clear HB; have HO_8 := n0_; have HO_11 := n1_; have HO_106 := n2_; have BK101 := n3_; have BK106 := n4_; have HB := n5_; clear n0_ n1_ n2_ n3_ n4_ n5_; clear hg hw hp_) | ((with_reducible refine QaW (b := .append) (xs := #[.tmp 128, .tmp 130]) rfl ?_); (try (refine Qa8 (by rfl) ?_; dsimp only)); at_builtin; refine Kd.Q_append (Kd.int .i64) (w0 := w) w.heap.size rfl (.tmp 128) (.tmp 130) 28 3 (.int .i64 0) 8 rfl Try.underlying28 info3 rfl (by decide) (by omega) u11 x11_5 (rd t122 x108_5) [.int .i64 (rd t122 x108_5)] (fun k_ => some k_ ≠ (.slice (some ⟨go38, 0, none⟩) x8_5.length co30 : Value).ownBlock ∧ some k_ ≠ (.slice (some ad128) t122.length co63 : Value).ownBlock) (fun _ => False) rfl rfl ?aP (fun _ hk => hk.elim) ?aF ?aO ?aB ?aS ?aL ?_; (case aP => exact rfl); (case aB => exact (bw_)); (case aF => exact (fun k_ hk => ⟨Kd.fresh' (Kd.R_lt (by (refine QaP ?_); exact HO_8.out)) k_ hk, Kd.fresh' (Kd.R_lt (by (refine QaP ?_); exact HO_106.out)) k_ hk⟩)); (case aO => exact (by (refine kdQ_ ?_); exact Kd.Q_mono HO_11.out (fun _ hk => ⟨hk.2, hk.1⟩))); (case aS => exact (QaY (bw_))); (case aL => have := LMc74.out; omega); intro v132 w79 ho hb hg hat; rw [← Ny131.out] at ho; have n0_ := Aside0.mk (Kd.R_after (ok := (fun k_ => some k_ ≠ (.slice (some ad128) t122.length co63 : Value).ownBlock)) (by (refine QaP ?_); exact Kd.R_mono HO_8.out (fun _ hk => ⟨hk.2, hk.1⟩)) hg hat); have n1_ := Aside0.mk (Kd.R_after (ok := (fun k_ => some k_ ≠ (.slice (some ⟨go38, 0, none⟩) x8_5.length co30 : Value).ownBlock)) (by (refine QaP ?_); exact Kd.R_mono HO_106.out (fun _ hk => ⟨hk.2, hk.1⟩)) hg hat); have n2_ := Aside0.mk (QaU (g := gb101) (o := .cells #[.slice (some ad105) l0_0.length c0_0] 25 (0, 0)) (by (refine kb_ ?_); exact BK101.out) hg (Kd.Q_ne HO_11.out BK101.out (by decide))); have n3_ := Aside0.mk (QaU (g := gb106) (o := .cells #[.int .i64 ((Qaa l0_0 a1).f0), .int .i64 ((Qaa l0_0 a1).f1), .slice (some ad116) ((Qaa l0_0 a1).f2).length c105_2] 34 (0, 0)) (by (refine kb_ ?_); exact BK106.out) hg (Kd.Q_ne HO_11.out BK106.out (by decide))); have n4_ := Aside0.mk (hb); have n5_ := Aside0.mk (ho); clear HO_8; clear HO_106; clear BK101; clear BK106; clear HB; clear HO_11; have HO_8 := n0_; have HO_106 := n1_; have BK101 := n2_; have BK106 := n3_; have HB := n4_; have HO133 := n5_; clear n0_ n1_ n2_ n3_ n4_ n5_; clear ho hb hg hat))
                                                              (try simp only [← hl8_5])
                                                              go_roundg k5
                                                              case measure => have := HJ2.out; have := HK2.out; have := HK3.out; have := HJ48.out; have := HK5.out; omega
                                                              case rel => exact ⟨(y130), (y131), (wrap64 (x108_5 + 1)), (by first | rfl | (simp; done) | (simp [*]; done)), H', ⟨by have := HJ2.out; have := HK2.out; have := HK3.out; have := HJ48.out; have := HK5.out; omega⟩, ⟨by (try simp only [hl8_2]); (try simp only [hl8_3]); (try simp only [hl8_5]); (refine QaP ?_); exact Kd.R_mono HO_8.out (fun _ hk => ⟨hk.2, hk.1⟩)⟩, ⟨by (try simp only [hl8_2]); (try simp only [hl8_3]); (try simp only [hl8_5]); (refine kdQ_ ?_); exact HO133.out⟩, ⟨by (try simp only [hl8_2]); (try simp only [hl8_3]); (try simp only [hl8_5]); (refine QaP ?_); exact HO_106.out⟩, ⟨by (try simp only [hl8_2]); (try simp only [hl8_3]); (try simp only [hl8_5]); (refine kb_ ?_); exact BK101.out⟩, ⟨by (try simp only [hl8_2]); (try simp only [hl8_3]); (try simp only [hl8_5]); (refine kb_ ?_); exact BK106.out⟩, ⟨bw_⟩⟩
                                                            · rw [if_neg c74] at H
                                                              exact absurd H (by simp)
                                                          · rw [if_neg c72] at H
                                                            have c72b0 : decide ((rd x8_5 (rd t122 x108_5)) < 0) = false := decide_eq_false c72
                                                            clear c72
                                                            by_cases c80 : (rd x8_5 (rd t122 x108_5)) = (wrap64 ((wrap64 ((rd x8_3 (rd x11_3 0)) - t117)) + t118))
                                                            · rw [if_pos c80] at H
                                                              have c80b0 : ((rd x8_5 (rd t122 x108_5)) == (wrap64 ((wrap64 ((rd x8_3 (rd x11_3 0)) - t117)) + t118))) = true := beq_iff_eq.mpr c80
                                                              have c80b1 : ((rd x8_5 (rd t122 x108_5)) != (wrap64 ((wrap64 ((rd x8_3 (rd x11_3 0)) - t117)) + t118))) = false := bne_eq_false_iff_eq.mpr c80
                                                              clear c80
                                                              have H' := Aside0.mk H
                                                              clear H
                                                              have p128 : 0 ≤ (x108_5 : Int) := of_decide_eq_true (by first | (with_reducible assumption) | assumption)
                                                              have q128 : x108_5 < (t122.length : Int) := of_decide_eq_true (by first | (with_reducible assumption) | assumption)
                                                              obtain ⟨ad128, e128, hx128_0⟩ := Kd.at_int (Kd.R_reads' HO_106.out).2.2 x108_5 p128 q128
                                                              cases e128
                                                              replace p128 := eq_true p128
                                                              replace q128 := eq_true q128
                                                              have hnb81 := NB106_101.out
                                                              have hnc81 := NB101_106.out
                                                              have hcz82_0 : wr.cell? ⟨gb106, 0, none⟩ = some (.int .i64 ((Qaa l0_0 a1).f0)) := (Qaf BK106.out 0).trans rfl
                                                              have hcz82_1 : wr.cell? ⟨gb106, 1, none⟩ = some (.int .i64 ((Qaa l0_0 a1).f1)) := (Qaf BK106.out 1).trans rfl
                                                              have hcz82_2 : wr.cell? ⟨gb106, 2, none⟩ = some (.slice (some ad116) ((Qaa l0_0 a1).f2).length c105_2) := (Qaf BK106.out 2).trans rfl
                                                              have hfz82_0 := Qaj BK106.out 0
                                                              have hfz82_1 := Qaj BK106.out 1
                                                              have hfz82_2 := Qaj BK106.out 2
                                                              have p129 : 0 ≤ ((rd t122 x108_5) : Int) := of_decide_eq_true (by first | (with_reducible assumption) | assumption)
                                                              have q129 : (rd t122 x108_5) < (x8_5.length : Int) := of_decide_eq_true (by first | (with_reducible assumption) | assumption)
                                                              obtain ⟨ad129, e129, hx129_0⟩ := Kd.at_int (Kd.R_reads' HO_8.out).2.2 (rd t122 x108_5) p129 q129
                                                              obtain rfl : (⟨go38, 0, none⟩ : Addr) = ad129 := (by injection e129)
                                                              (first | simp only [Qbn] at hx129_0 | simp only [Qb1] at hx129_0 | simp only [Addr.add, Nat.zero_add] at hx129_0 | skip)
                                                              replace p129 := eq_true p129
                                                              replace q129 := eq_true q129
                                                              have p134 : 0 ≤ ((rd t122 x108_5) : Int) := of_decide_eq_true (by first | (with_reducible assumption) | assumption)
                                                              have q134 : (rd t122 x108_5) < (x8_5.length : Int) := of_decide_eq_true (by first | (with_reducible assumption) | assumption)
                                                              obtain ⟨ad134, e134, hx134_0⟩ := Kd.at_int (Kd.R_reads' HO_8.out).2.2 (rd t122 x108_5) p134 q134
                                                              obtain rfl : (⟨go38, 0, none⟩ : Addr) = ad134 := (by injection e134)
                                                              (first | simp only [Qbn] at hx134_0 | simp only [Qb1] at hx134_0 | simp only [Addr.add, Nat.zero_add] at hx134_0 | skip)
                                                              replace p134 := eq_true p134
                                                              replace q134 := eq_true q134
                                                              go_wp2
                                                              (try simp only [← hl8_5])
                                                              go_roundg k5
                                                              case measure => have := HJ2.out; have := HK2.out; have := HK3.out; have := HJ48.out; have := HK5.out; omega
                                                              case rel => exact ⟨(x8_5), (x11_5), (wrap64 (x108_5 + 1)), (by first | rfl | (simp; done) | (simp [*]; done)), H', ⟨by have := HJ2.out; have := HK2.out; have := HK3.out; have := HJ48.out; have := HK5.out; omega⟩, ⟨by (try simp only [hl8_2]); (try simp only [hl8_3]); (try simp only [hl8_5]); (refine QaP ?_); exact HO_8.out⟩, ⟨by (try simp only [hl8_2]); (try simp only [hl8_3]); (try simp only [hl8_5]); (refine kdQ_ ?_); exact HO_11.out⟩, ⟨by (try simp only [hl8_2]); (try simp only [hl8_3]); (try simp only [hl8_5]); (refine QaP ?_); exact HO_106.out⟩, ⟨by (try simp only [hl8_2]); (try simp only [hl8_3]); (try simp only [hl8_5]); (refine kb_ ?_); exact BK101.out⟩, ⟨by (try simp only [hl8_2]); (try simp only [hl8_3]); (try simp only [hl8_5]); (refine kb_ ?_); exact BK106.out⟩, ⟨bw_⟩⟩
                                                            · rw [if_neg c80] at H
                                                              have c80b0 : ((rd x8_5 (rd t122 x108_5)) == (wrap64 ((wrap64 ((rd x8_3 (rd x11_3 0)) - t117)) + t118))) = false := beq_eq_false_iff_ne.mpr c80
                                                              have c80b1 : ((rd x8_5 (rd t122 x108_5)) != (wrap64 ((wrap64 ((rd x8_3 (rd x11_3 0)) - t117)) + t118))) = true := bne_iff_ne.mpr c80
                                                              simp only [Option.some.injEq, Prod.mk.injEq] at H
                                                              obtain ⟨rfl, rfl, rfl⟩ := H
                                                              have p128 : 0 ≤ (x108_5 : Int) := of_decide_eq_true (by first | (with_reducible assumption) | assumption)
                                                              have q128 : x108_5 < (t122.length : Int) := of_decide_eq_true (by first | (with_reducible assumption) | assumption)
                                                              obtain ⟨ad128, e128, hx128_0⟩ := Kd.at_int (Kd.R_reads' HO_106.out).2.2 x108_5 p128 q128
                                                              cases e128
                                                              replace p128 := eq_true p128
                                                              replace q128 := eq_true q128
                                                              have hnb83 := NB106_101.out
                                                              have hnc83 := NB101_106.out
                                                              have hcz84_0 : wr.cell? ⟨gb106, 0, none⟩ = some (.int .i64 ((Qaa l0_0 a1).f0)) := (Qaf BK106.out 0).trans rfl
                                                              have hcz84_1 : wr.cell? ⟨gb106, 1, none⟩ = some (.int .i64 ((Qaa l0_0 a1).f1)) := (Qaf BK106.out 1).trans rfl
                                                              have hcz84_2 : wr.cell? ⟨gb106, 2, none⟩ = some (.slice (some ad116) ((Qaa l0_0 a1).f2).length c105_2) := (Qaf BK106.out 2).trans rfl
                                                              have hfz84_0 := Qaj BK106.out 0
                                                              have hfz84_1 := Qaj BK106.out 1
                                                              have hfz84_2 := Qaj BK106.out 2
                                                              have p129 : 0 ≤ ((rd t122 x108_5) : Int) := of_decide_eq_true (by first | (with_reducible assumption) | assumption)
                                                              have q129 : (rd t122 x108_5) < (x8_5.length : Int) := of_decide_eq_true (by first | (with_reducible assumption) | assumption)
                                                              obtain ⟨ad129, e129, hx129_0⟩ := Kd.at_int (Kd.R_reads' HO_8.out).2.2 (rd t122 x108_5) p129 q129
                                                              obtain rfl : (⟨go38, 0, none⟩ : Addr) = ad129 := (by injection e129)
                                                              (first | simp only [Qbn] at hx129_0 | simp only [Qb1] at hx129_0 | simp only [Addr.add, Nat.zero_add] at hx129_0 | skip)
                                                              replace p129 := eq_true p129
                                                              replace q129 := eq_true q129
                                                              have p134 : 0 ≤ ((rd t122 x108_5) : Int) := of_decide_eq_true (by first | (with_reducible assumption) | assumption)
                                                              have q134 : (rd t122 x108_5) < (x8_5.length : Int) := of_decide_eq_true (by first | (with_reducible assumption) | assumption)
                                                              obtain ⟨ad134, e134, hx134_0⟩ := Kd.at_int (Kd.R_reads' HO_8.out).2.2 (rd t122 x108_5) p134 q134
                                                              obtain rfl : (⟨go38, 0, none⟩ : Addr) = ad134 := (by injection e134)
                                                              (first | simp only [Qbn] at hx134_0 | simp only [Qb1] at hx134_0 | simp only [Addr.add, Nat.zero_add] at hx134_0 | skip)
                                                              replace p134 := eq_true p134
                                                              replace q134 := eq_true q134
                                                              go_wp2
                                                              go_ret3
                                                              exact ⟨_, by first | rfl | (simp [Qan, Qao] <;> rfl) | (simp only [← hji57, ← hji58]; first | rfl | (simp [Qan, Qao] <;> rfl)) | (simp [*, Qan, Qao] <;> rfl), by first | exact Kd.R_nil _ _ _ _ _ | exact Kd.N_nil _ _ _ _ _ | exact Kd.V_nil _ _ _ _ _ | exact Kd.Q_nil _ _ _ _ _ | exact Kd.S_nil _ _ _ _ _, bw_⟩
                                                        · rw [if_neg c71] at H
                                                          exact absurd H (by simp)
                                                      · rw [if_neg c70] at H
                                                        exact absurd H (by simp)
                                                  · rw [if_neg c66] at H
                                                    exact absurd H (by simp)
                                                · rw [if_neg c65] at H
                                                  exact absurd H (by simp)
                                              · rw [if_neg c64] at H
                                                have c64b0 : decide (x108_5 < (t122.length : Int)) = false := decide_eq_false c64
                                                clear c64
                                                by_cases c85 : 1 ≤ (x11_5.length : Int)
                                                · rw [if_pos c85] at H
                                                  have c85b0 := eq_true c85
                                                  have c85b1 : decide (1 ≤ (x11_5.length : Int)) = true := decide_eq_true c85
                                                  clear c85
                                                  obtain ⟨y125, hy125⟩ : ∃ y_ : List Int, y_ = (x11_5.drop (1 : Int).toNat) := ⟨_, rfl⟩
                                                  replace H : (Qak.l1 k5 x8_5 ji58 y125 l0_0 ((Qaa l0_0 a1).f0) ((Qaa l0_0 a1).f1) ((Qaa l0_0 a1).f2)) = some (r1, r2, r3) := by first | (rw [hy125]; with_reducible exact H) | (have H2_ := (Option.bind_some _ _).symm.trans H; rw [hy125]; with_reducible exact H2_) | (have H2_ := (Option.bind_some _ _).symm.trans H; with_reducible exact H2_) | with_reducible exact H | (rw [hy125]; exact H) | exact H
                                                  have Ny125 := Aside0.mk hy125
                                                  clear hy125
                                                  have H' := Aside0.mk H
                                                  clear H
                                                  obtain ⟨Ao86, co86, eo86, _⟩ := Kd.Q_slice HO_11.out
                                                  subst eo86
                                                  have q87 : (1 : Int) ≤ ((x11_5.length : Int) : Int) := of_decide_eq_true (by first | (with_reducible assumption) | assumption)
                                                  obtain ⟨i087, hi087, _, hsz87, _⟩ := info_parts info3
                                                  have hcut87 := cut_from (P := Try.prog) 28 3 .i64 Try.underlying28 hi087 1 hsz87 Ao86 x11_5.length co86 1 (by omega) q87
                                                  have hr87 := Kd.Q_drop (k := (1 : Int).toNat) HO_11.out (by omega)
                                                  obtain ⟨A87, hA87⟩ : ∃ A1, A1 = (if co86 = (1 : Int).toNat then Ao86 else (Ao86 : Option Addr).map (·.add ((1 : Int).toNat * 1))) := ⟨_, rfl⟩
                                                  obtain ⟨c87, hc87⟩ : ∃ c1, c1 = co86 - (1 : Int).toNat := ⟨_, rfl⟩
                                                  have hy87 : y125.length = x11_5.length - (1 : Int).toNat := (by rw [Ny125.out, List.length_drop])
                                                  rw [← Ny125.out] at hr87
                                                  rw [← hy87, ← hA87, ← hc87] at hcut87
                                                  replace hr87 : Kd.Q (Kd.int .i64) 3 wr w.heap.size (fun k_ => some k_ ≠ (.slice (some ⟨go38, 0, none⟩) x8_5.length co30 : Value).ownBlock ∧ some k_ ≠ (.slice Ao63 t122.length co63 : Value).ownBlock) (.slice A87 y125.length c87) y125 := (by rw [hA87, hc87, hy87]; exact hr87)
                                                  have HE87 : Aside0 ((Value.slice A87 y125.length c87).ownBlock = (.slice Ao86 x11_5.length co86 : Value).ownBlock) := ⟨by rw [hA87]; split <;> (cases (Ao86 : Option Addr) <;> rfl)⟩
                                                  clear hy87 hi087 hsz87 HO_11 hA87 hc87
                                                  have HO127 := Aside0.mk hr87
                                                  clear hr87
                                                  replace q87 := eq_true q87
                                                  have n_ := Aside0.mk (Kd.R_mono (ok' := fun k_ => (some k_ ≠ (.slice A87 y125.length c87 : Value).ownBlock ∧ some k_ ≠ (.slice Ao63 t122.length co63 : Value).ownBlock)) HO_8.out (fun k_ hk => ⟨(by rw [HE87.out]; exact hk.1), hk.2⟩))
                                                  clear HO_8
                                                  have HO_8 := n_
                                                  clear n_
                                                  have n_ := Aside0.mk (Kd.R_mono (ok' := fun k_ => (some k_ ≠ (.slice (some ⟨go38, 0, none⟩) x8_5.length co30 : Value).ownBlock ∧ some k_ ≠ (.slice A87 y125.length c87 : Value).ownBlock)) HO_106.out (fun k_ hk => ⟨hk.1, (by rw [HE87.out]; exact hk.2)⟩))
                                                  clear HO_106
                                                  have HO_106 := n_
                                                  clear n_
                                                  go_wp2
                                                  (try simp only [← hl8_3, ← hl8_5])
                                                  go_roundg k5
                                                  case measure => have := HJ2.out; have := HK2.out; have := HK3.out; have := HJ48.out; have := HK5.out; omega
                                                  case rel => exact ⟨(x8_5), (ji58), (y125), (by first | rfl | (simp; done) | (simp only [← hji58] <;> (first | rfl | simp)) | (simp [*]; done)), H', ⟨by have := HJ2.out; have := HK2.out; have := HK3.out; have := HJ48.out; have := HK5.out; omega⟩, ⟨by (try simp only [hl8_2]); (try simp only [hl8_3]); (try simp only [hl8_5]); (refine QaP ?_); exact Kd.R_mono HO_8.out (fun _ hk => hk.1)⟩, ⟨by (try simp only [hl8_2]); (try simp only [hl8_3]); (try simp only [hl8_5]); (refine kdQ_ ?_); exact Kd.Q_mono HO127.out (fun _ hk => hk.1)⟩, ⟨by (try simp only [hl8_2]); (try simp only [hl8_3]); (try simp only [hl8_5]); (refine kb_ ?_); exact BK101.out⟩, ⟨by (try simp only [hl8_2]); (try simp only [hl8_3]); (try simp only [hl8_5]); (refine kb_ ?_); exact BK106.out⟩, ⟨bw_⟩⟩
                                                · rw [if_neg c85] at H
                                                  exact absurd H (by simp)
                                         · rw [if_neg c56] at H
                                           exact absurd H (by simp)
                                       · rw [if_neg c55] at H
                                         exact absurd H (by simp)
                                · rw [if_neg c48] at H
                                  exact absurd H (by simp)
                              · rw [if_neg c46] at H
                                exact absurd H (by simp)
                            · rw [if_neg c45] at H
                              exact absurd H (by simp)
                          · rw [if_neg c44] at H
                            exact absurd H (by simp)
                        · rw [if_neg c43] at H
                          have c43b0 : decide (0 < (x11_3.length : Int)) = false := decide_eq_false c43
                          have c43b1 : decide (0 < x11_3.length) = false := decide_eq_false (by omega)
                          clear c43
                          simp only [Option.some.injEq, Prod.mk.injEq] at H
                          obtain ⟨rfl, rfl, rfl⟩ := H
                          obtain ⟨Ao88, co88, eo88, _⟩ := Kd.Q_slice HO_11.out
                          subst eo88
                          go_wp2
                          go_ret3
                          exact ⟨_, by first | rfl | (simp [Qan, Qao] <;> rfl) | (simp [*, Qan, Qao] <;> rfl), by (refine QaP ?_); exact Kd.R_mono HO_8.out (fun _ hk => trivial), bw_⟩
                   · rw [if_neg c37] at H
                     exact absurd H (by simp)
            · rw [if_neg c23] at H
              exact absurd H (by simp)
          · rw [if_neg c22] at H
            exact absurd H (by simp)
        · rw [if_neg c21] at H
          exact absurd H (by simp)
      · rw [if_neg c20] at H
        exact absurd H (by simp)
end Go.Proofs.Ytabcijheemjplaa.G
namespace Go.Proofs.Ytabcijheemjplaa.G
open Go.RowKit Go.Proofs.YtabcijheemjplaaW.PrintWords Go.Proofs.YtabcijheemjplaaW.PrintLast Go.Proofs.YtabcijheemjplaaW.PrintMore
attribute [local go_sem] QaQ QaR Qa3 Qa4 QaJ QaK QaS QaT
set_option linter.unusedVariables false
set_option linter.unusedSimpArgs false
def QbN.f (k : Nat) (l0_0 : List (Qae)) (a1 : Int) : Option (List Int × Bool) := (Qak.f k l0_0 a1).bind fun bt102 => (some (bt102.1, bt102.2.2))
theorem QbN.mono : ∀ a0 a1 k, LeO (QbN.f k a0 a1) (QbN.f (k + 1) a0 a1) := by
 intro a0 a1 k
 unfold QbN.f
 repeat' first
  | (with_reducible exact Qak.mono _ _ _)
  | (with_reducible exact LeO.refl _)
  | (with_reducible exact LeO.none _)
  | (with_reducible refine LeO.ite ?_ ?_)
  | (with_reducible refine LeO.bind ?_ (fun _ => ?_))
  | exact Qak.mono _ _ _
  | exact LeO.none _
  | refine LeO.ite ?_ ?_
  | refine LeO.bind ?_ (fun _ => ?_)
set_option maxHeartbeats 8000000 in
set_option maxRecDepth 100000 in
theorem QbN.calls (k : Nat) (A0_0 : Option Addr) (c0_0 : Nat) (l0_0 : List (Qae)) (a1 : Int) (r1 : List Int) (r2 : Bool) (w : World) (hr0_0 : Kd.C QaD w A0_0 l0_0.length l0_0) (hc0_0 : l0_0.length ≤ c0_0) (h : QbN.f k l0_0 a1 = some (r1, r2)) :
 Calls Try.prog 17 #[.agg #[.slice A0_0 l0_0.length c0_0], .int .i64 a1] w fun e w' => ∃ v0_ : Value, e = .returned (.tuple #[v0_, .bool r2]) ∧ Kd.R (Kd.int .i64) 3 w' w.heap.size (fun _ => True) v0_ r1 ∧ Below w.heap.size w w' := by
 have hu25 := Try.underlying25
 have HR0_0 := Aside0.mk hr0_0
 have HC0_0 := Aside0.mk hc0_0
 clear hr0_0 hc0_0
 have HB := Aside0.mk (Below.refl w.heap.size w)
 have H : ((Qak.f k l0_0 a1).bind fun bt102 => (some (bt102.1, bt102.2.2))) = some (r1, r2) := h
 clear h
 replace H := Option.bind_eq_some_iff.mp H
 obtain ⟨⟨t102, t105, t106⟩, A30, H⟩ := H
 replace H : (some (t102, t106)) = some (r1, r2) := H
 have A3 := Aside0.mk A30
 clear A30
 simp only [Option.some.injEq, Prod.mk.injEq] at H
 obtain ⟨rfl, rfl⟩ := H
 go_enter Try.func17, Try.ntmps17
 go_wp2_with (first | ((with_reducible refine QaH (N := 2) rfl ?_); refine QaN ?hg (N := 2) ?hd (cs := #[.slice A0_0 l0_0.length c0_0]) (t := 25) ?hr ?_; (case hd => rfl); (case hg => rfl); (case hr => first | (go_simp; done) | (go_simp; rfl)); intro gb101 hg w4 hbox hb; have n0_ := Aside0.mk (Qap (bw_) hb); have n1_ := Aside0.mk (hbox); have n2_ := Aside0.mk ((gs_ hg bw_ : w.heap.size ≤ gb101)); have n3_ := Aside0.mk ((gs_ hg bw_ : w.heap.size ≤ gb101)); clear HB; have HB := n0_; have BK101 := n1_; have GW101 := n2_; have GE101 := n3_; clear n0_ n1_ n2_ n3_; clear hb hbox hg; obtain ⟨hcz5_0, hfz5_0⟩ := blkF1_ BK101.out) | ((with_reducible refine Qax (f := 60) rfl ?_); refine QaX (some 12) rfl rfl Try.func60 (by kernel_rfl) rfl #[.agg #[.slice A0_0 l0_0.length c0_0], .int .i64 a1] rfl (by (try simp only [List.map_toArray, List.map_cons, List.map_nil]); first | done | rfl | (simp only [List.length_drop, List.length_take]; rfl)) ?_; (with_reducible refine (Qak.calls k _ _ l0_0 a1 t102 t105 t106 _ ?side1 ?side2 A3.out).mono ?_); (case side1 => exact cb_); (case side2 => exact HC0_0.out); rintro e w6 ⟨v103, rfl, ho0, hb⟩; refine ⟨_, rfl, ?_⟩; have n0_ := Aside0.mk (Kd.R_lower ho0 (QaY (bw_))); have n1_ := Aside0.mk (bb_ BK101 hb); have n2_ := Aside0.mk (Qap (bw_) hb); clear BK101; clear HB; have HO104 := n0_; have BK101 := n1_; have HB := n2_; clear n0_ n1_ n2_; (try clear hb); (try clear hb2); (try clear hk); (try clear hi); (try clear ho0)))
 go_ret2
 exact ⟨_, by first | rfl | (simp [Qan, Qao] <;> rfl) | (simp [*, Qan, Qao] <;> rfl), by (refine QaP ?_); exact HO104.out, bw_⟩
end Go.Proofs.Ytabcijheemjplaa.G
