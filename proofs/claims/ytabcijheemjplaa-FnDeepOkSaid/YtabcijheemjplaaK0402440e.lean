import Derived.Test.YtabcijheemjplaaK7e4b1ddb
import Derived.Test.YtabcijheemjplaaK5299fbc4
import Derived.Laws.EntriesVeiled
import Derived.IntWalk
import Derived.Deep.RegionHeld3
import Derived.Shelf.Abstract
import Derived.Test.YtabcijheemjplaaK94b38d0a
namespace Go.Proofs.Ytabcijheemjplaa.G
open Go.RowKit Go.Proofs.YtabcijheemjplaaW.PrintWords Go.Proofs.YtabcijheemjplaaW.PrintLast Go.Proofs.YtabcijheemjplaaW.PrintMore
attribute [local go_sem] QaW QaX Qa8 Qa9 QaM QaN QaY QaZ
set_option linter.unusedVariables false
set_option linter.unusedSimpArgs false
def Qch (nl : Nat) (y : Int) (no : Nat) (k a : Int) : Bool :=
 if 1 ≤ k ∧ k ≤ 18 then (if mG k.toNat = none then decide (a = 0) else decide (0 ≤ a ∧ a ≤ mMost k.toNat nl y no - 1)) else false
theorem most_range (n n0 n2 : Nat) (y : Int) (h0 : 0 ≤ y) (h1 : y ≤ 4) (a : n0 ≤ 9223372036854775807) (b : n2 ≤ 9223372036854775807) : 0 ≤ mMost n n0 y n2 ∧ mMost n n0 y n2 ≤ 9223372036854775807 := by
 unfold mMost
 by_cases hn : n < 19
 · have h : n = 0 ∨ n = 1 ∨ n = 2 ∨ n = 3 ∨ n = 4 ∨ n = 5 ∨ n = 6 ∨ n = 7 ∨ n = 8 ∨ n = 9 ∨ n = 10 ∨ n = 11 ∨ n = 12 ∨ n = 13 ∨ n = 14 ∨ n = 15 ∨ n = 16 ∨ n = 17 ∨ n = 18 := by omega
   rcases h with rfl | rfl | rfl | rfl | rfl | rfl | rfl | rfl | rfl | rfl | rfl | rfl | rfl | rfl | rfl | rfl | rfl | rfl | rfl <;> simp <;> omega
 · rw [List.getD_eq_getElem?_getD, List.getElem?_eq_none (by simp; omega)]
   simp
set_option maxHeartbeats 1000000 in
theorem in_any (n lo hi : Int) (w : World) : Calls Try.prog 62 #[.int .i64 n, .int .i64 lo, .int .i64 hi] w fun e w' => e = .returned (.bool (decide (lo ≤ n ∧ n ≤ hi))) ∧ w = w' := by
 by_cases h1 : lo ≤ n
 · have d1 : decide (lo ≤ n) = true := decide_eq_true h1
   by_cases h2 : n ≤ hi
   · have d2 : decide (n ≤ hi) = true := decide_eq_true h2
     have d : decide (lo ≤ n ∧ n ≤ hi) = true := decide_eq_true ⟨h1, h2⟩
     rw [d]
     clear h1 h2 d
     go_enter Try.func62, Try.ntmps62
     go_wp2
     go_ret
     exact ⟨rfl, rfl⟩
   · have d2 : decide (n ≤ hi) = false := decide_eq_false h2
     have d : decide (lo ≤ n ∧ n ≤ hi) = false := decide_eq_false (fun h => h2 h.2)
     rw [d]
     clear h1 h2 d
     go_enter Try.func62, Try.ntmps62
     go_wp2
     go_ret
     exact ⟨rfl, rfl⟩
 · have d1 : decide (lo ≤ n) = false := decide_eq_false h1
   have d : decide (lo ≤ n ∧ n ≤ hi) = false := decide_eq_false (fun h => h1 h.1)
   rw [d]
   clear h1 d
   go_enter Try.func62, Try.ntmps62
   go_wp2
   go_ret
   exact ⟨rfl, rfl⟩
theorem mG_enters {n g : Nat} {o : Option Nat} (h1 : 1 ≤ n) (h2 : n ≤ 18) (hG : mG n = some (g, o)) : ∀ args w, (callFunc g args).run Try.prog w = .ok (.enter g args) w := by
 rcases mG_cases h1 h2 hG with rfl | rfl | rfl | rfl | rfl | rfl | rfl | rfl <;> (simp only [mG, List.getD_cons_succ, List.getD_cons_zero, Option.some.injEq, Prod.mk.injEq] at hG; obtain ⟨rfl, rfl⟩ := hG)
 · exact enters_of Try.func143 (by kernel_rfl) rfl
 · exact enters_of Try.func144 (by kernel_rfl) rfl
 · exact enters_of Try.func144 (by kernel_rfl) rfl
 · exact enters_of Try.func145 (by kernel_rfl) rfl
 · exact enters_of Try.func145 (by kernel_rfl) rfl
 · exact enters_of Try.func146 (by kernel_rfl) rfl
 · exact enters_of Try.func143 (by kernel_rfl) rfl
 · exact enters_of Try.func143 (by kernel_rfl) rfl
theorem eql_nilFunc : ∀ w, (binOp .eql 128 .nilFunc .nilFunc).run Try.prog w = .ok (.bool true) w := fun _ => by kernel_rfl
theorem eql_func (g : Nat) (lb : Array Value) : ∀ w, (binOp .eql 128 (.func (.func g) #[] lb) .nilFunc).run Try.prog w = .ok (.bool false) w := fun _ => by kernel_rfl
theorem three_boxes {w w1 : World} {o1 o2 o3 : Obj} (h : Below (((w.alloc o1).alloc o2).alloc o3).heap.size (((w.alloc o1).alloc o2).alloc o3) w1) : w1.heap[w.heap.size]? = some o1 ∧ w1.heap[w.heap.size + 1]? = some o2 ∧ w1.heap[w.heap.size + 2]? = some o3 ∧ Below w.heap.size w w1 ∧ w.heap.size + 2 < w1.heap.size := by
 have h1 : (((w.alloc o1).alloc o2).alloc o3).heap[w.heap.size]? = some o1 := by
  show (((w.heap.push o1).push o2).push o3)[_]? = _
  simp only [Array.getElem?_push, Array.size_push]
  repeat (first | rw [if_pos trivial] | rw [if_pos (by omega)] | rw [if_neg (by omega)])
 have h2 : (((w.alloc o1).alloc o2).alloc o3).heap[w.heap.size + 1]? = some o2 := by
  show (((w.heap.push o1).push o2).push o3)[_]? = _
  simp only [Array.getElem?_push, Array.size_push]
  repeat (first | rw [if_pos trivial] | rw [if_pos (by omega)] | rw [if_neg (by omega)])
 have h3 : (((w.alloc o1).alloc o2).alloc o3).heap[w.heap.size + 2]? = some o3 := by
  show (((w.heap.push o1).push o2).push o3)[_]? = _
  simp only [Array.getElem?_push, Array.size_push]
  repeat (first | rw [if_pos trivial] | rw [if_pos (by omega)] | rw [if_neg (by omega)])
 refine ⟨(h.block _ (Qa5 h1)).trans h1, (h.block _ (Qa5 h2)).trans h2, (h.block _ (Qa5 h3)).trans h3, ?_, ?_⟩
 · exact Qao (Qak (Qak (Qak (Below.refl _ _) _) _) _) h
 · have := h.size
   simp at this
   omega
set_option maxHeartbeats 2000000 in
set_option maxRecDepth 100000 in
theorem opok_no (k a : Int) (A0 : Option Addr) (n0 c0 : Nat) (x y : Int) (A2 : Option Addr) (n2 c2 : Nat) (w : World) (h : ¬ (1 ≤ k ∧ k ≤ 18)) :
 Calls Try.prog 67 #[.agg #[.int .i64 k, .int .i64 a], .agg #[.slice A0 n0 c0], .agg #[.int .i64 x, .int .i64 y, .slice A2 n2 c2]] w fun e w' => e = .returned (.bool false) ∧ Below w.heap.size w w' := by
 have H := Aside0.mk h
 clear h
 go_enter Try.func67, Try.ntmps67
 go_wp2_with (go_at_call 109; refine (mannerOf_no _ _ H.out).mono ?_; rintro e w1 ⟨rfl, hb⟩; obtain ⟨hb1, hb2, hb3, hb4, hb5⟩ := three_boxes hb; have HB := Aside0.mk hb4; clear hb hb4)
 go_ret
 exact ⟨rfl, by repeat (first | exact HB.out | apply Qak)⟩
set_option maxHeartbeats 2000000 in
set_option maxRecDepth 100000 in
theorem opok_nil (k a : Int) (A0 : Option Addr) (n0 c0 : Nat) (x y : Int) (A2 : Option Addr) (n2 c2 : Nat) (w : World) (h1 : 1 ≤ k) (h2 : k ≤ 18) (hF : mG k.toNat = none) :
 Calls Try.prog 67 #[.agg #[.int .i64 k, .int .i64 a], .agg #[.slice A0 n0 c0], .agg #[.int .i64 x, .int .i64 y, .slice A2 n2 c2]] w fun e w' => e = .returned (.bool (decide (a = 0))) ∧ Below w.heap.size w w' := by
 have H1 := Aside0.mk h1
 have H2 := Aside0.mk h2
 have HF := Aside0.mk hF
 clear h1 h2 hF
 have hq := eql_nilFunc
 go_enter Try.func67, Try.ntmps67
 go_wp2_with (go_at_call 109; refine (mannerOf_nil _ _ H1.out H2.out HF.out).mono ?_; rintro e w1 ⟨b, rfl, hm, hge, hb⟩; obtain ⟨hb1, hb2, hb3, hb4, hb5⟩ := three_boxes hb; have HB := Aside0.mk hb4; have hlt1 : w.heap.size < w1.heap.size := Nat.lt_of_succ_lt (Nat.lt_of_succ_lt hb5); clear hb hb4 hm hge; have z1 : w1.cell? ⟨w.heap.size, 1, none⟩ = some (.int .i64 a) := Qaf hb1 1)
 go_ret
 exact ⟨rfl, by repeat (first | exact HB.out | apply Qak)⟩
set_option maxHeartbeats 4000000 in
set_option maxRecDepth 100000 in
theorem opok_fn (k a : Int) (A0 : Option Addr) (n0 c0 : Nat) (x y : Int) (A2 : Option Addr) (n2 c2 : Nat) (w : World) (g : Nat) (o : Option Nat) (h1 : 1 ≤ k) (h2 : k ≤ 18) (hF : mG k.toNat = some (g, o)) (hy0 : 0 ≤ y) (hy1 : y ≤ 4) (hn0 : n0 ≤ 9223372036854775807) (hn2 : n2 ≤ 9223372036854775807) :
 Calls Try.prog 67 #[.agg #[.int .i64 k, .int .i64 a], .agg #[.slice A0 n0 c0], .agg #[.int .i64 x, .int .i64 y, .slice A2 n2 c2]] w fun e w' => e = .returned (.bool (decide (0 ≤ a ∧ a ≤ mMost k.toNat n0 y n2 - 1))) ∧ Below w.heap.size w w' := by
 have H1 := Aside0.mk h1
 have H2 := Aside0.mk h2
 have HF := Aside0.mk hF
 have eg := mG_enters (n := k.toNat) (by omega) (by omega) hF
 have hM := most_range k.toNat n0 n2 y hy0 hy1 hn0 hn2
 clear h1 h2 hF hn0 hn2 hy0 hy1
 have hq := eql_func g
 go_enter Try.func67, Try.ntmps67
 go_wp2_with (go_at_call 109; refine (mannerOf_fn _ _ _ _ H1.out H2.out HF.out).mono ?_; rintro e w1 ⟨b, rfl, hm, hge, hb⟩; obtain ⟨hb1, hb2, hb3, hb4, hb5⟩ := three_boxes hb; have HB := Aside0.mk hb4; have HM := Aside0.mk hm; have hlt1 : w.heap.size < w1.heap.size := Nat.lt_of_succ_lt (Nat.lt_of_succ_lt hb5); have hlt2 : w.heap.size + 1 < w1.heap.size := Nat.lt_of_succ_lt hb5; clear hb hb4 hm hge; have z1 : w1.cell? ⟨w.heap.size, 1, none⟩ = some (.int .i64 a) := Qaf hb1 1; have z2 : w1.cell? ⟨w.heap.size + 1, 0, none⟩ = some (.slice A0 n0 c0) := Qaf hb2 0; have z3 : w1.cell? ⟨w.heap.size + 1 + 1, 0, none⟩ = some (.int .i64 x) := Qaf hb3 0; have z4 : w1.cell? ⟨w.heap.size + 1 + 1, 1, none⟩ = some (.int .i64 y) := Qaf hb3 1; have z5 : w1.cell? ⟨w.heap.size + 1 + 1, 2, none⟩ = some (.slice A2 n2 c2) := Qaf hb3 2)
 go_region_held3 (fun w' => w'.cell? ⟨w.heap.size, 1, none⟩ = some (.int .i64 a) ∧ w'.cell? ⟨w1.heap.size, 4, none⟩ = some (.func (.func g) #[] (mLb b o)) ∧ w'.cell? ⟨w.heap.size + 1, 0, none⟩ = some (.slice A0 n0 c0) ∧ w'.cell? ⟨w.heap.size + 1 + 1, 0, none⟩ = some (.int .i64 x) ∧ w'.cell? ⟨w.heap.size + 1 + 1, 1, none⟩ = some (.int .i64 y) ∧ w'.cell? ⟨w.heap.size + 1 + 1, 2, none⟩ = some (.slice A2 n2 c2))
  (first | go_keep | exact ⟨y1, y2, y3, y4, y5, y6⟩)
  (first | (go_at_fn g; refine (most_any (n := k.toNat) (o := o) (by exact HM.out.kept (by repeat (first | exact Below.refl _ _ | apply Qak | apply Qar | apply Qax))) (by have := H1.out; omega) (by have := H2.out; omega) HF.out A0 n0 c0 x y A2 n2 c2).mono ?_; rintro e w2 ⟨rfl, hb2⟩; have y1 := Qa_ hb2 (a := ⟨w.heap.size, 1, none⟩) (v := .int .i64 a) (by go_keep); have y2 := Qa_ hb2 (a := ⟨w1.heap.size, 4, none⟩) (v := .func (.func g) #[] (mLb b o)) (by go_keep); have y3 := Qa_ hb2 (a := ⟨w.heap.size + 1, 0, none⟩) (v := .slice A0 n0 c0) (by go_keep); have y4 := Qa_ hb2 (a := ⟨w.heap.size + 1 + 1, 0, none⟩) (v := .int .i64 x) (by go_keep); have y5 := Qa_ hb2 (a := ⟨w.heap.size + 1 + 1, 1, none⟩) (v := .int .i64 y) (by go_keep); have y6 := Qa_ hb2 (a := ⟨w.heap.size + 1 + 1, 2, none⟩) (v := .slice A2 n2 c2) (by go_keep); have HB2 := Aside0.mk (Qao (by repeat (first | exact HB.out | apply Qak | apply Qar | apply Qax) : Below w.heap.size w _) hb2); clear hb2) | (go_at_call 62; refine (in_any _ _ _ _).mono ?_; rintro e w3 ⟨rfl, rfl⟩))
 go_wp2
 go_ret
 refine ⟨?_, by repeat (first | exact HB2.out | apply Qak | apply Qar | apply Qax)⟩
 show Ending.returned (.bool (decide (0 ≤ a) && decide (a ≤ IntKind.i64.wrap (mMost k.toNat n0 y n2 - 1)))) = _
 rw [IntWalk.i64_in _ (by omega), Bool.decide_and]
theorem opok_calls (k a : Int) (A0 : Option Addr) (n0 c0 : Nat) (x y : Int) (A2 : Option Addr) (n2 c2 : Nat) (w : World) (hy0 : 0 ≤ y) (hy1 : y ≤ 4) (hn0 : n0 ≤ 9223372036854775807) (hn2 : n2 ≤ 9223372036854775807) :
 Calls Try.prog 67 #[.agg #[.int .i64 k, .int .i64 a], .agg #[.slice A0 n0 c0], .agg #[.int .i64 x, .int .i64 y, .slice A2 n2 c2]] w fun e w' => e = .returned (.bool (Qch n0 y n2 k a)) ∧ Below w.heap.size w w' := by
 unfold Qch
 by_cases hk : 1 ≤ k ∧ k ≤ 18
 · rw [if_pos hk]
   cases hg : mG k.toNat with
   | none => rw [if_pos rfl]; exact opok_nil k a A0 n0 c0 x y A2 n2 c2 w hk.1 hk.2 hg
   | some go => rw [if_neg (by simp)]; exact opok_fn k a A0 n0 c0 x y A2 n2 c2 w go.1 go.2 hk.1 hk.2 hg hy0 hy1 hn0 hn2
 · rw [if_neg hk]
   exact opok_no k a A0 n0 c0 x y A2 n2 c2 w hk
end Go.Proofs.Ytabcijheemjplaa.G
namespace Go.Proofs.Ytabcijheemjplaa.G
open Go.RowKit Go.Proofs.YtabcijheemjplaaW.PrintWords Go.Proofs.YtabcijheemjplaaW.PrintLast Go.Proofs.YtabcijheemjplaaW.PrintMore
attribute [local go_sem] QaW QaX Qa8 Qa9 QaM QaN QaY QaZ
set_option linter.unusedVariables false
set_option linter.unusedSimpArgs false
def Qbb (nl : Nat) (m : Qae) : Bool :=
 if 0 ≤ m.f0 ∧ m.f0 ≤ 2 ∧ m.f0 ≤ m.f1 ∧ m.f1 ≤ 4 ∧ m.f2.length ≤ 14 then m.f2.any (fun op => !Qch nl m.f1 m.f2.length op.f0 op.f1) else true
def QbF (l : List Qae) : Bool :=
 if 1 ≤ l.length ∧ l.length ≤ 4 ∧ (Qaa l 0).f0 = 0 then !(l.any (Qbb l.length)) else false
set_option maxHeartbeats 2000000 in
set_option maxRecDepth 100000 in
theorem progok11 (k a : Int) (bp bm : Nat) (A0 : Option Addr) (n0 c0 : Nat) (x y : Int) (A2 : Option Addr) (n2 c2 : Nat) (w : World) (hy0 : 0 ≤ y) (hy1 : y ≤ 4) (hn0 : n0 ≤ 9223372036854775807) (hn2 : n2 ≤ 9223372036854775807)
 (hp : w.cell? ⟨bp, 0, none⟩ = some (.slice A0 n0 c0)) (h0 : w.cell? ⟨bm, 0, none⟩ = some (.int .i64 x)) (h1 : w.cell? ⟨bm, 1, none⟩ = some (.int .i64 y)) (h2 : w.cell? ⟨bm, 2, none⟩ = some (.slice A2 n2 c2)) :
 Calls Try.prog 66 #[.agg #[.int .i64 k, .int .i64 a], .pointer (some ⟨bp, 0, none⟩), .pointer (some ⟨bm, 0, none⟩)] w fun e w' => e = .returned (.bool (!Qch n0 y n2 k a)) ∧ Below w.heap.size w w' := by
 have l1 : bp < w.heap.size := World.block_lt_of_cell? w _ hp
 have l2 : bm < w.heap.size := World.block_lt_of_cell? w _ h0
 have Y0 := Aside0.mk hy0
 have Y1 := Aside0.mk hy1
 have N0 := Aside0.mk hn0
 have N2 := Aside0.mk hn2
 clear hy0 hy1 hn0 hn2
 go_enter Try.func66, Try.ntmps66
 go_wp2_with (go_at_call 67; refine (opok_calls k a A0 n0 c0 x y A2 n2 c2 _ Y0.out Y1.out N0.out N2.out).mono ?_; rintro e w1 ⟨rfl, hb⟩; have HB := Aside0.mk (Qao (Qak (Below.refl _ _) _) hb); clear hb)
 go_ret
 exact ⟨rfl, HB.out⟩
theorem progok1_enters : ∀ args w, (callFunc 64 args).run Try.prog w = .ok (.enter 64 args) w := enters_of Try.func64 (by kernel_rfl) rfl
theorem progok11_enters : ∀ args w, (callFunc 66 args).run Try.prog w = .ok (.enter 66 args) w := enters_of Try.func66 (by kernel_rfl) rfl
set_option maxHeartbeats 2000000 in
set_option maxRecDepth 100000 in
theorem progok1_out (m : Qae) (bp : Nat) (A2 : Option Addr) (c2 : Nat) (w : World) (h : ¬ (0 ≤ m.f0 ∧ m.f0 ≤ 2 ∧ m.f0 ≤ m.f1 ∧ m.f1 ≤ 4 ∧ m.f2.length ≤ 14)) :
 Calls Try.prog 64 #[.agg #[.int .i64 m.f0, .int .i64 m.f1, .slice A2 m.f2.length c2], .pointer (some ⟨bp, 0, none⟩)] w fun e w' => e = .returned (.bool true) ∧ Below w.heap.size w w' := by
 obtain ⟨x, y, l⟩ := m
 simp only at h ⊢
 by_cases c1 : 0 ≤ x
 · have d1 := decide_eq_true c1
   by_cases c2' : x ≤ 2
   · have d2 := decide_eq_true c2'
     by_cases c3 : x ≤ y
     · have d3 := decide_eq_true c3
       by_cases c4 : y ≤ 4
       · have d4 := decide_eq_true c4
         have d5 : decide (14 < (l.length : Int)) = true := decide_eq_true (by omega)
         have d6 : decide (14 < l.length) = true := decide_eq_true (by omega)
         clear c1 c2' c3 c4 h
         go_enter Try.func64, Try.ntmps64
         go_wp2_with (go_at_call 62; refine (in_any _ _ _ _).mono ?_; rintro e w3 ⟨rfl, rfl⟩)
         go_ret
         exact ⟨rfl, Qak (Below.refl _ _) _⟩
       · have d4 := decide_eq_false c4
         clear c1 c2' c3 c4 h
         go_enter Try.func64, Try.ntmps64
         go_wp2_with (go_at_call 62; refine (in_any _ _ _ _).mono ?_; rintro e w3 ⟨rfl, rfl⟩)
         go_ret
         exact ⟨rfl, Qak (Below.refl _ _) _⟩
     · have d3 := decide_eq_false c3
       clear c1 c2' c3 h
       go_enter Try.func64, Try.ntmps64
       go_wp2_with (go_at_call 62; refine (in_any _ _ _ _).mono ?_; rintro e w3 ⟨rfl, rfl⟩)
       go_ret
       exact ⟨rfl, Qak (Below.refl _ _) _⟩
   · have d2 := decide_eq_false c2'
     clear c1 c2' h
     go_enter Try.func64, Try.ntmps64
     go_wp2_with (go_at_call 62; refine (in_any _ _ _ _).mono ?_; rintro e w3 ⟨rfl, rfl⟩)
     go_ret
     exact ⟨rfl, Qak (Below.refl _ _) _⟩
 · have d1 := decide_eq_false c1
   clear c1 h
   go_enter Try.func64, Try.ntmps64
   go_wp2_with (go_at_call 62; refine (in_any _ _ _ _).mono ?_; rintro e w3 ⟨rfl, rfl⟩)
   go_ret
   exact ⟨rfl, Qak (Below.refl _ _) _⟩
set_option maxHeartbeats 2000000 in
set_option maxRecDepth 100000 in
theorem progok1_in (x y : Int) (l : List Qac) (bp : Nat) (A0 : Option Addr) (n0 c0 : Nat) (A2 : Option Addr) (c2 : Nat) (w : World) (h1 : 0 ≤ x) (h2 : x ≤ 2) (h3 : x ≤ y) (h4 : y ≤ 4) (h5 : l.length ≤ 14) (hn0 : n0 ≤ 9223372036854775807)
 (hp : w.cell? ⟨bp, 0, none⟩ = some (.slice A0 n0 c0)) (hr : Kd.C QaD w A2 l.length l) :
 Calls Try.prog 64 #[.agg #[.int .i64 x, .int .i64 y, .slice A2 l.length c2], .pointer (some ⟨bp, 0, none⟩)] w fun e w' => e = .returned (.bool (l.any (fun op => !Qch n0 y l.length op.f0 op.f1))) ∧ Below w.heap.size w w' := by
 have d1 := decide_eq_true h1
 have d2 := decide_eq_true h2
 have d3 := decide_eq_true h3
 have d4 := decide_eq_true h4
 have d5 : decide (14 < (l.length : Int)) = false := decide_eq_false (by omega)
 have d6 : decide (14 < l.length) = false := decide_eq_false (by omega)
 have L1 := Aside0.mk (World.block_lt_of_cell? w _ hp : bp < w.heap.size)
 have HP := Aside0.mk hp
 have HR := Aside0.mk hr
 have Y0 := Aside0.mk (show 0 ≤ y by omega)
 have Y1 := Aside0.mk h4
 have N0 := Aside0.mk hn0
 have N2 := Aside0.mk (show l.length ≤ 9223372036854775807 by omega)
 have BK := Aside0.mk (blk_new w (.cells #[.int .i64 x, .int .i64 y, .slice A2 l.length c2] 34))
 clear h1 h2 h3 h4 h5 hp hr hn0
 go_enter Try.func64, Try.ntmps64
 go_wp2_with (first | (go_at_call 62; refine (in_any _ _ _ _).mono ?_; rintro e w3 ⟨rfl, rfl⟩) | (go_at_call 65; refine (contains_impl_Op 66 _ progok11_enters (fun op => !Qch n0 y l.length op.f0 op.f1) _ _ _ _ ?hc ?hq).mono ?_; (case hc => exact Kd.C_alloc HR.out _); (case hq => intro W hW o cs ho hK; obtain rfl := Qcf hK; exact (progok11 o.f0 o.f1 bp w.heap.size A0 n0 c0 x y A2 l.length c2 W Y0.out Y1.out N0.out N2.out (Qa_ (Qao (Qak (Below.refl _ _) _) hW) HP.out) (Qaf ((hW.block _ (Qa5 BK.out)).trans BK.out) 0) (Qaf ((hW.block _ (Qa5 BK.out)).trans BK.out) 1) (Qaf ((hW.block _ (Qa5 BK.out)).trans BK.out) 2)).mono fun e w' ⟨he, hb⟩ => ⟨he, Qbr hW hW.size hb⟩); rintro e w1 ⟨rfl, hb⟩; have HB := Aside0.mk (Qao (Qak (Below.refl _ _) _) hb : Below w.heap.size w w1); clear hb))
 go_ret
 exact ⟨rfl, HB.out⟩
theorem progok1_calls (m : Qae) (bp : Nat) (A0 : Option Addr) (n0 c0 : Nat) (cs : List Value) (w : World) (hn0 : n0 ≤ 9223372036854775807) (hp : w.cell? ⟨bp, 0, none⟩ = some (.slice A0 n0 c0)) (hK : (QaL).K w m cs) :
 Calls Try.prog 64 (#[.agg cs.toArray] ++ #[.pointer (some ⟨bp, 0, none⟩)]) w fun e w' => e = .returned (.bool (Qbb n0 m)) ∧ Below w.heap.size w w' := by
 obtain ⟨A2, c2, rfl, l2, g2⟩ := Qce hK
 unfold Qbb
 by_cases h : 0 ≤ m.f0 ∧ m.f0 ≤ 2 ∧ m.f0 ≤ m.f1 ∧ m.f1 ≤ 4 ∧ m.f2.length ≤ 14
 · rw [if_pos h]
   exact progok1_in m.f0 m.f1 m.f2 bp A0 n0 c0 A2 c2 w h.1 h.2.1 h.2.2.1 h.2.2.2.1 h.2.2.2.2 hn0 hp g2
 · rw [if_neg h]
   exact progok1_out m bp A2 c2 w h
end Go.Proofs.Ytabcijheemjplaa.G
namespace Go.Proofs.Ytabcijheemjplaa.G
open Go.RowKit Go.Proofs.YtabcijheemjplaaW.PrintWords Go.Proofs.YtabcijheemjplaaW.PrintLast Go.Proofs.YtabcijheemjplaaW.PrintMore
attribute [local go_sem] QaW QaX Qa8 Qa9 QaM QaN QaY QaZ
set_option linter.unusedVariables false
set_option linter.unusedSimpArgs false
def Qbi.f (l0_0 : List (Qae)) : Option Bool := some (QbF l0_0)
set_option maxHeartbeats 2000000 in
set_option maxRecDepth 100000 in
theorem ProgOk_few (A0 : Option Addr) (c0 : Nat) (l : List Qae) (w : World) (h : ¬ (1 ≤ l.length ∧ l.length ≤ 4)) :
 Calls Try.prog 24 #[.agg #[.slice A0 l.length c0]] w fun e w' => e = .returned (.bool false) ∧ Below w.heap.size w w' := by
 have h : decide (1 ≤ (l.length : Int)) = false ∨ (decide (1 ≤ (l.length : Int)) = true ∧ decide ((l.length : Int) ≤ 4) = false) := by
  by_cases h1 : 1 ≤ l.length
  · exact .inr ⟨by simp; omega, by simp; omega⟩
  · exact .inl (by simp; omega)
 rcases h with h1 | ⟨h1, h2⟩
 · go_enter Try.func24, Try.ntmps24
   go_wp2_with (go_at_call 62; refine (in_any _ _ _ _).mono ?_; rintro e w3 ⟨rfl, rfl⟩)
   go_ret
   exact ⟨rfl, Qak (Below.refl _ _) _⟩
 · go_enter Try.func24, Try.ntmps24
   go_wp2_with (go_at_call 62; refine (in_any _ _ _ _).mono ?_; rintro e w3 ⟨rfl, rfl⟩)
   go_ret
   exact ⟨rfl, Qak (Below.refl _ _) _⟩
set_option maxHeartbeats 2000000 in
set_option maxRecDepth 100000 in
theorem ProgOk_args (A0 : Option Addr) (c0 : Nat) (l : List Qae) (w : World) (h1 : 1 ≤ l.length) (h2 : l.length ≤ 4) (hr : Kd.C QaL w A0 l.length l) (h3 : ¬ (Qaa l 0).f0 = 0) :
 Calls Try.prog 24 #[.agg #[.slice A0 l.length c0]] w fun e w' => e = .returned (.bool false) ∧ Below w.heap.size w w' := by
 obtain ⟨ad, A2, c2, rfl, hx0, -, -, -, -⟩ := Qbh hr 0 (by omega) (by omega)
 have d1 : decide (1 ≤ (l.length : Int)) = true := decide_eq_true (by omega)
 have d2 : decide ((l.length : Int) ≤ 4) = true := decide_eq_true (by omega)
 have d0 : decide (0 < l.length) = true := decide_eq_true (by omega)
 have i1 : (0 : Int) < (l.length : Int) := by omega
 have i2 : 0 < l.length := by omega
 have d3 : ((Qaa l 0).f0 != 0) = true := bne_iff_ne.mpr h3
 have hx := Qa_ (Qak (Below.refl _ _) (.cells #[.slice (some ad) l.length c0] 25)) hx0
 simp only [Int.toNat_zero, Nat.zero_mul] at hx
 have e0 : ad.add 0 = ad := by unfold Addr.add; simp
 rw [e0] at hx
 clear h1 h2 h3 hx0 hr e0 d0
 go_enter Try.func24, Try.ntmps24
 go_wp2_with (go_at_call 62; refine (in_any _ _ _ _).mono ?_; rintro e w3 ⟨rfl, rfl⟩)
 go_ret
 exact ⟨rfl, Qak (Below.refl _ _) _⟩
set_option maxHeartbeats 2000000 in
set_option maxRecDepth 100000 in
theorem ProgOk_all (A0 : Option Addr) (c0 : Nat) (l : List Qae) (w : World) (h1 : 1 ≤ l.length) (h2 : l.length ≤ 4) (hr : Kd.C QaL w A0 l.length l) (h3 : (Qaa l 0).f0 = 0) :
 Calls Try.prog 24 #[.agg #[.slice A0 l.length c0]] w fun e w' => e = .returned (.bool (!(l.any (Qbb l.length)))) ∧ Below w.heap.size w w' := by
 have HR := Aside0.mk hr
 obtain ⟨ad, A2, c2, rfl, hx0, -, -, -, -⟩ := Qbh hr 0 (by omega) (by omega)
 have d1 : decide (1 ≤ (l.length : Int)) = true := decide_eq_true (by omega)
 have d2 : decide ((l.length : Int) ≤ 4) = true := decide_eq_true (by omega)
 have i1 : (0 : Int) < (l.length : Int) := by omega
 have i2 : 0 < l.length := by omega
 have d3 : ((Qaa l 0).f0 != 0) = false := bne_eq_false_iff_eq.mpr h3
 have hx := Qa_ (Qak (Below.refl _ _) (.cells #[.slice (some ad) l.length c0] 25)) hx0
 simp only [Int.toNat_zero, Nat.zero_mul] at hx
 have e0 : ad.add 0 = ad := by unfold Addr.add; simp
 rw [e0] at hx
 have BK := Aside0.mk (blk_new w (.cells #[.slice (some ad) l.length c0] 25))
 have N0 := Aside0.mk (show l.length ≤ 9223372036854775807 by omega)
 clear h1 h2 h3 hx0 hr e0
 go_enter Try.func24, Try.ntmps24
 go_wp2_with (first | (go_at_call 62; refine (in_any _ _ _ _).mono ?_; rintro e w3 ⟨rfl, rfl⟩) | (go_at_call 63; refine (contains_impl_Method 64 _ progok1_enters (Qbb l.length) _ _ _ _ ?hc ?hq).mono ?_; (case hc => exact Kd.C_alloc HR.out _); (case hq => intro W hW m cs hm hK; exact (progok1_calls m w.heap.size (some ad) l.length c0 cs W N0.out (Qaf ((hW.block _ (Qa5 BK.out)).trans BK.out) 0) hK).mono fun e w' ⟨he, hb⟩ => ⟨he, Qbr hW hW.size hb⟩); rintro e w1 ⟨rfl, hb⟩; have HB := Aside0.mk (Qao (Qak (Below.refl _ _) _) hb : Below w.heap.size w w1); clear hb))
 go_ret
 exact ⟨rfl, HB.out⟩
theorem Qbi.calls (A0_0 : Option Addr) (c0_0 : Nat) (l0_0 : List (Qae)) (r : Bool) (w : World) (hr0_0 : Kd.C QaL w A0_0 l0_0.length l0_0) (hc0_0 : l0_0.length ≤ c0_0) (h : Qbi.f l0_0 = some r) :
 Calls Try.prog 24 #[.agg #[.slice A0_0 l0_0.length c0_0]] w fun e w' => e = .returned (.bool r) ∧ Below w.heap.size w w' := by
 unfold Qbi.f QbF at h
 obtain rfl := Option.some.inj h
 by_cases h1 : 1 ≤ l0_0.length ∧ l0_0.length ≤ 4
 · by_cases h3 : (Qaa l0_0 0).f0 = 0
   · rw [if_pos ⟨h1.1, h1.2, h3⟩]
     exact ProgOk_all A0_0 c0_0 l0_0 w h1.1 h1.2 hr0_0 h3
   · rw [if_neg (fun h => h3 h.2.2)]
     exact ProgOk_args A0_0 c0_0 l0_0 w h1.1 h1.2 hr0_0 h3
 · rw [if_neg (fun h => h1 ⟨h.1, h.2.1⟩)]
   exact ProgOk_few A0_0 c0_0 l0_0 w h1
end Go.Proofs.Ytabcijheemjplaa.G
