import Derived.Test.YtabcijheemjplaaK6ca9bb5a
import Derived.Laws.EntriesVeiled
namespace Go.Proofs.Ytabcijheemjplaa.G
open Go.RowKit Go.Proofs.YtabcijheemjplaaW.PrintWords Go.Proofs.YtabcijheemjplaaW.PrintLast Go.Proofs.YtabcijheemjplaaW.PrintMore
attribute [local go_sem] QaQ QaR Qa3 Qa4 QaJ QaK QaS QaT
set_option linter.unusedVariables false
set_option linter.unusedSimpArgs false
def mWord (n : Nat) : ByteArray := (([[], [110, 117, 109], [116, 101, 109, 112], [115, 101, 116], [100, 114, 111, 112], [97, 100, 100], [115, 97, 109, 101], [106, 117, 109, 112], [122, 101, 114, 111], [99, 97, 108, 108], [114, 101, 116], [104, 101, 114, 101], [115, 101, 110, 100, 101, 114], [112, 101, 101, 107], [112, 111, 107, 101], [98, 97, 99, 107], [115, 97, 121], [100, 101, 97, 100], [119, 104, 101, 114, 101]] : List (List UInt8)).map fun l => (⟨l.toArray⟩ : ByteArray)).getD n ⟨#[]⟩
def mTakes (n : Nat) : Int := [0, 0, 0, 1, 1, 2, 2, 0, 1, 0, 1, 0, 1, 1, 2, 2, 1, 1, 1].getD n 0
def mLeft (n : Nat) : Int := [0, 1, 1, 0, 0, 1, 1, 0, 0, 1, 0, 1, 1, 1, 0, 1, 0, 1, 1].getD n 0
def mKA (b n : Nat) : Option Addr :=
 [none, none, none, some ⟨b, 0, none⟩, some ⟨b, 0, none⟩, some ⟨b + 3, 0, none⟩, some ⟨b + 4, 0, none⟩, none, some ⟨b, 0, none⟩, none, some ⟨b, 0, none⟩, none, some ⟨b + 1, 0, none⟩, some ⟨b + 1, 0, none⟩, some ⟨b + 6, 0, none⟩, some ⟨b + 8, 0, none⟩, some ⟨b, 0, none⟩, some ⟨b + 1, 0, none⟩, some ⟨b + 1, 0, none⟩].getD n none
def mKN (n : Nat) : Nat := [0, 0, 0, 1, 1, 2, 2, 0, 1, 0, 1, 0, 1, 1, 2, 2, 1, 1, 1].getD n 0
def mG (n : Nat) : Option (Nat × Option Nat) :=
 [none, some (143, some 2), some (144, none), some (144, none), none, none, none, some (145, none), some (145, none), some (146, none), none, none, none, some (143, some 5), some (143, some 7), none, none, none, none].getD n none
def mLb (b : Nat) (o : Option Nat) : Array Value := match o with
 | none => #[]
 | some j => #[.pointer (some ⟨b + j, 0, none⟩)]
def mF (b n : Nat) : Value := match mG n with
 | none => .nilFunc
 | some (g, o) => .func (.func g) #[] (mLb b o)
theorem manner_arr (b n : Nat) (h1 : 1 ≤ n) (h2 : n ≤ 18) : (Qb4 b)[n * 5]? = some (.string (mWord n)) ∧ (Qb4 b)[n * 5 + 1]? = some (.int .i64 (mTakes n)) ∧ (Qb4 b)[n * 5 + 2]? = some (.int .i64 (mLeft n)) ∧
 (Qb4 b)[n * 5 + 3]? = some (.slice (mKA b n) (mKN n) (mKN n)) ∧ (Qb4 b)[n * 5 + 4]? = some (mF b n) := by
 have h : n = 1 ∨ n = 2 ∨ n = 3 ∨ n = 4 ∨ n = 5 ∨ n = 6 ∨ n = 7 ∨ n = 8 ∨ n = 9 ∨ n = 10 ∨ n = 11 ∨ n = 12 ∨ n = 13 ∨ n = 14 ∨ n = 15 ∨ n = 16 ∨ n = 17 ∨ n = 18 := by omega
 rcases h with rfl | rfl | rfl | rfl | rfl | rfl | rfl | rfl | rfl | rfl | rfl | rfl | rfl | rfl | rfl | rfl | rfl | rfl <;> exact ⟨rfl, rfl, rfl, rfl, rfl⟩
theorem manner_cells {b n : Nat} {w : World} (h : Qbt b w) (h1 : 1 ≤ n) (h2 : n ≤ 18) : w.cell? ⟨b + 9, n * 5, none⟩ = some (.string (mWord n)) ∧ w.cell? ⟨b + 9, n * 5 + 1, none⟩ = some (.int .i64 (mTakes n)) ∧ w.cell? ⟨b + 9, n * 5 + 2, none⟩ = some (.int .i64 (mLeft n)) ∧
 w.cell? ⟨b + 9, n * 5 + 3, none⟩ = some (.slice (mKA b n) (mKN n) (mKN n)) ∧ w.cell? ⟨b + 9, n * 5 + 4, none⟩ = some (mF b n) := by
 obtain ⟨a0, a1, a2, a3, a4⟩ := manner_arr b n h1 h2
 exact ⟨(Qaf h.1 _).trans a0, (Qaf h.1 _).trans a1, (Qaf h.1 _).trans a2, (Qaf h.1 _).trans a3, (Qaf h.1 _).trans a4⟩
set_option maxHeartbeats 1000000 in
set_option maxRecDepth 100000 in
theorem mannerOf_no (k : Int) (w : World) (h : ¬ (1 ≤ k ∧ k ≤ 18)) :
 Calls Try.prog 109 #[.int .i64 k] w fun e w' => e = .returned (.tuple #[.agg #[.string ⟨#[]⟩, .int .i64 0, .int .i64 0, .slice none 0 0, .nilFunc], .bool false]) ∧ Below w.heap.size w w' := by
 have h : decide (1 ≤ k) = false ∨ (decide (1 ≤ k) = true ∧ decide (k ≤ 18) = false) := by
  by_cases h1 : 1 ≤ k
  · exact .inr ⟨by simpa using h1, by simp; omega⟩
  · exact .inl (by simpa using h1)
 rcases h with h1 | ⟨h1, h2⟩
 · go_enter Try.func109, Try.ntmps109
   go_wp2
   refine bodyPost_ret (Qco rfl _ _ w.heap.size 130 #[.string ⟨#[]⟩, .int .i64 0, .int .i64 0, .slice none 0 0, .nilFunc] (0, 0) _ rfl (blk_new w _) Try.underlying130 rfl (by kernel_rfl)) rfl ?_
   exact ⟨rfl, Qal (Below.refl _ _) _⟩
 · go_enter Try.func109, Try.ntmps109
   go_wp2
   refine bodyPost_ret (Qco rfl _ _ w.heap.size 130 #[.string ⟨#[]⟩, .int .i64 0, .int .i64 0, .slice none 0 0, .nilFunc] (0, 0) _ rfl (blk_new w _) Try.underlying130 rfl (by kernel_rfl)) rfl ?_
   exact ⟨rfl, Qal (Below.refl _ _) _⟩
theorem blk_set5 {w : World} {g t : Nat} {a0 a1 a2 a3 a4 : Value} (h : w.heap[g]? = some (.cells #[a0, a1, a2, a3, a4] t (0, 0))) (b0 b1 b2 b3 b4 : Value) :
 (((((w.setCell ⟨g, 0, none⟩ b0).setCell ⟨g, 1, none⟩ b1).setCell ⟨g, 2, none⟩ b2).setCell ⟨g, 3, none⟩ b3).setCell ⟨g, 4, none⟩ b4).heap[g]? = some (.cells #[b0, b1, b2, b3, b4] t (0, 0)) := by
 have := QbV (QbV (QbV (QbV (QbV h 0 b0) 1 b1) 2 b2) 3 b3) 4 b4
 simpa using this
theorem Qbt.far {b : Nat} {w : World} (h : Qbt b w) {p : Addr} (hp : p.block < b) (u : Value) : Qbt b (w.setCell p u) := by
 obtain ⟨h9, h0, h1, h2, h3, h4, h5, h6, h7, h8⟩ := h
 exact ⟨Qbe h9 (by omega) u, Qbe h0 (by omega) u, Qbe h1 (by omega) u, Qbe h2 (by omega) u, Qbe h3 (by omega) u, Qbe h4 (by omega) u, Qbe h5 (by omega) u, Qbe h6 (by omega) u, Qbe h7 (by omega) u, Qbe h8 (by omega) u⟩
set_option maxHeartbeats 1000000 in
set_option maxRecDepth 100000 in
theorem mannerOf_nil (k : Int) (w : World) (h1 : 1 ≤ k) (h2 : k ≤ 18) (hF : mG k.toNat = none) :
 Calls Try.prog 109 #[.int .i64 k] w fun e w' => ∃ b, e = .returned (.tuple #[.agg #[.string (mWord k.toNat), .int .i64 (mTakes k.toNat), .int .i64 (mLeft k.toNat), .slice (mKA b k.toNat) (mKN k.toNat) (mKN k.toNat), .nilFunc], .bool true]) ∧ Qbt b w' ∧ w.heap.size ≤ b ∧ Below w.heap.size w w' := by
 have d1 : decide (1 ≤ k) = true := by simpa using h1
 have d2 : decide (k ≤ 18) = true := by simpa using h2
 have H1 := Aside0.mk h1
 have H2 := Aside0.mk h2
 have HF := Aside0.mk hF
 clear hF
 have e1 : decide (0 ≤ k) = true := by simp; omega
 have e2 : decide (k < 19) = true := by simp; omega
 go_enter Try.func109, Try.ntmps109
 have HW := Aside0.mk (blk_new w (.cells #[.string ⟨#[]⟩, .int .i64 0, .int .i64 0, .slice none 0 0, .nilFunc] 130))
 go_wp2_with (first | (go_at_call 62; go_in) | (go_at_call 130; refine (manners_calls _).mono ?_; rintro e w1 ⟨rfl, hm, hb⟩; have HM := Aside0.mk (show Qbt (w.heap.size + 1) w1 by simpa using hm); have HB := Aside0.mk (Qa_ (Qal (Below.refl _ _) _) (by simp) hb : Below w.heap.size w w1); have HW1 := Aside0.mk ((hb.block _ (Qbr HW.out)).trans HW.out); clear hm hb; obtain ⟨hx0, hx1, hx2, hx3, hx4⟩ := manner_cells HM.out (n := k.toNat) (by have := H1.out; omega) (by have := H2.out; omega); rw [show mF (w.heap.size + 1) k.toNat = .nilFunc by unfold mF; rw [HF.out]] at hx4; have z0 := Qaf HW1.out 0; have z1 := Qaf HW1.out 1; have z2 := Qaf HW1.out 2; have z3 := Qaf HW1.out 3; have z4 := Qaf HW1.out 4; have f0 := Qaj HW1.out 0; have f1 := Qaj HW1.out 1; have f2 := Qaj HW1.out 2; have f3 := Qaj HW1.out 3; have f4 := Qaj HW1.out 4))
 refine bodyPost_ret (Qco rfl _ _ w.heap.size 130 #[.string (mWord k.toNat), .int .i64 (mTakes k.toNat), .int .i64 (mLeft k.toNat), .slice (mKA (w.heap.size + 1) k.toNat) (mKN k.toNat) (mKN k.toNat), .nilFunc] (0, 0) _ rfl (blk_set5 HW1.out _ _ _ _ _) Try.underlying130 rfl (by kernel_rfl)) rfl ?_
 exact ⟨w.heap.size + 1, rfl, ((((HM.out.far (Nat.lt_succ_self _) _).far (Nat.lt_succ_self _) _).far (Nat.lt_succ_self _) _).far (Nat.lt_succ_self _) _).far (Nat.lt_succ_self _) _, Nat.le_succ _,
  Qaw (Qaw (Qaw (Qaw (Qaw HB.out (Nat.le_refl _)) (Nat.le_refl _)) (Nat.le_refl _)) (Nat.le_refl _)) (Nat.le_refl _)⟩
set_option maxHeartbeats 1000000 in
set_option maxRecDepth 100000 in
theorem mannerOf_fn (k : Int) (w : World) (g : Nat) (o : Option Nat) (h1 : 1 ≤ k) (h2 : k ≤ 18) (hF : mG k.toNat = some (g, o)) :
 Calls Try.prog 109 #[.int .i64 k] w fun e w' => ∃ b, e = .returned (.tuple #[.agg #[.string (mWord k.toNat), .int .i64 (mTakes k.toNat), .int .i64 (mLeft k.toNat), .slice (mKA b k.toNat) (mKN k.toNat) (mKN k.toNat), .func (.func g) #[] (mLb b o)], .bool true]) ∧ Qbt b w' ∧ w.heap.size ≤ b ∧ Below w.heap.size w w' := by
 have d1 : decide (1 ≤ k) = true := by simpa using h1
 have d2 : decide (k ≤ 18) = true := by simpa using h2
 have H1 := Aside0.mk h1
 have H2 := Aside0.mk h2
 have HF := Aside0.mk hF
 clear hF
 have e1 : decide (0 ≤ k) = true := by simp; omega
 have e2 : decide (k < 19) = true := by simp; omega
 go_enter Try.func109, Try.ntmps109
 have HW := Aside0.mk (blk_new w (.cells #[.string ⟨#[]⟩, .int .i64 0, .int .i64 0, .slice none 0 0, .nilFunc] 130))
 go_wp2_with (first | (go_at_call 62; go_in) | (go_at_call 130; refine (manners_calls _).mono ?_; rintro e w1 ⟨rfl, hm, hb⟩; have HM := Aside0.mk (show Qbt (w.heap.size + 1) w1 by simpa using hm); have HB := Aside0.mk (Qa_ (Qal (Below.refl _ _) _) (by simp) hb : Below w.heap.size w w1); have HW1 := Aside0.mk ((hb.block _ (Qbr HW.out)).trans HW.out); clear hm hb; obtain ⟨hx0, hx1, hx2, hx3, hx4⟩ := manner_cells HM.out (n := k.toNat) (by have := H1.out; omega) (by have := H2.out; omega); rw [show mF (w.heap.size + 1) k.toNat = .func (.func g) #[] (mLb (w.heap.size + 1) o) by unfold mF; rw [HF.out]] at hx4; have z0 := Qaf HW1.out 0; have z1 := Qaf HW1.out 1; have z2 := Qaf HW1.out 2; have z3 := Qaf HW1.out 3; have z4 := Qaf HW1.out 4; have f0 := Qaj HW1.out 0; have f1 := Qaj HW1.out 1; have f2 := Qaj HW1.out 2; have f3 := Qaj HW1.out 3; have f4 := Qaj HW1.out 4))
 refine bodyPost_ret (Qco rfl _ _ w.heap.size 130 #[.string (mWord k.toNat), .int .i64 (mTakes k.toNat), .int .i64 (mLeft k.toNat), .slice (mKA (w.heap.size + 1) k.toNat) (mKN k.toNat) (mKN k.toNat), .func (.func g) #[] (mLb (w.heap.size + 1) o)] (0, 0) _ rfl (blk_set5 HW1.out _ _ _ _ _) Try.underlying130 rfl (by kernel_rfl)) rfl ?_
 exact ⟨w.heap.size + 1, rfl, ((((HM.out.far (Nat.lt_succ_self _) _).far (Nat.lt_succ_self _) _).far (Nat.lt_succ_self _) _).far (Nat.lt_succ_self _) _).far (Nat.lt_succ_self _) _, Nat.le_succ _,
  Qaw (Qaw (Qaw (Qaw (Qaw HB.out (Nat.le_refl _)) (Nat.le_refl _)) (Nat.le_refl _)) (Nat.le_refl _)) (Nat.le_refl _)⟩
end Go.Proofs.Ytabcijheemjplaa.G
namespace Go.Proofs.Ytabcijheemjplaa.G
open Go.RowKit Go.Proofs.YtabcijheemjplaaW.PrintWords Go.Proofs.YtabcijheemjplaaW.PrintLast Go.Proofs.YtabcijheemjplaaW.PrintMore
attribute [local go_sem] QaQ QaR Qa3 Qa4 QaJ QaK QaS QaT
set_option linter.unusedVariables false
set_option linter.unusedSimpArgs false
def mMost (n : Nat) (nl y no : Int) : Int := [0, 100, y, y, 0, 0, 0, no, no, nl, 0, 0, 0, 4, 4, 0, 0, 0, 0].getD n 0
set_option maxHeartbeats 1000000 in
theorem most_box (a : Nat) (M : Int) (u v : Array Value) (w : World) (hx : w.cell? ⟨a, 0, none⟩ = some (.int .i64 M)) :
 Calls Try.prog 143 #[.agg u, .agg v, .pointer (some ⟨a, 0, none⟩)] w fun e w' => e = .returned (.int .i64 M) ∧ Below w.heap.size w w' := by
 have hlt : a < w.heap.size := World.block_lt_of_cell? w _ hx
 go_enter Try.func143, Try.ntmps143
 go_wp2
 go_ret
 exact ⟨rfl, Qal (Qal (Below.refl _ _) _) _⟩
set_option maxHeartbeats 1000000 in
theorem most_temps (u : Array Value) (x y : Int) (s : Value) (w : World) :
 Calls Try.prog 144 #[.agg u, .agg #[.int .i64 x, .int .i64 y, s]] w fun e w' => e = .returned (.int .i64 y) ∧ Below w.heap.size w w' := by
 go_enter Try.func144, Try.ntmps144
 go_wp2
 go_ret
 exact ⟨rfl, Qal (Qal (Below.refl _ _) _) _⟩
set_option maxHeartbeats 1000000 in
theorem most_ops (u : Array Value) (x y : Int) (A : Option Addr) (n c : Nat) (w : World) :
 Calls Try.prog 145 #[.agg u, .agg #[.int .i64 x, .int .i64 y, .slice A n c]] w fun e w' => e = .returned (.int .i64 n) ∧ Below w.heap.size w w' := by
 go_enter Try.func145, Try.ntmps145
 go_wp2
 go_ret
 exact ⟨rfl, Qal (Qal (Below.refl _ _) _) _⟩
set_option maxHeartbeats 1000000 in
theorem most_methods (v : Array Value) (A : Option Addr) (n c : Nat) (w : World) :
 Calls Try.prog 146 #[.agg #[.slice A n c], .agg v] w fun e w' => e = .returned (.int .i64 n) ∧ Below w.heap.size w w' := by
 go_enter Try.func146, Try.ntmps146
 go_wp2
 go_ret
 exact ⟨rfl, Qal (Qal (Below.refl _ _) _) _⟩
theorem mG_cases {n g : Nat} {o : Option Nat} (h1 : 1 ≤ n) (h2 : n ≤ 18) (hG : mG n = some (g, o)) : n = 1 ∨ n = 2 ∨ n = 3 ∨ n = 7 ∨ n = 8 ∨ n = 9 ∨ n = 13 ∨ n = 14 := by
 have h : n = 1 ∨ n = 2 ∨ n = 3 ∨ n = 4 ∨ n = 5 ∨ n = 6 ∨ n = 7 ∨ n = 8 ∨ n = 9 ∨ n = 10 ∨ n = 11 ∨ n = 12 ∨ n = 13 ∨ n = 14 ∨ n = 15 ∨ n = 16 ∨ n = 17 ∨ n = 18 := by omega
 rcases h with rfl | rfl | rfl | rfl | rfl | rfl | rfl | rfl | rfl | rfl | rfl | rfl | rfl | rfl | rfl | rfl | rfl | rfl <;> first | omega | (exact absurd hG (by simp [mG]))
theorem most_any {b n g : Nat} {o : Option Nat} {w : World} (hm : Qbt b w) (h1 : 1 ≤ n) (h2 : n ≤ 18) (hG : mG n = some (g, o)) (A0 : Option Addr) (n0 c0 : Nat) (x y : Int) (A2 : Option Addr) (n2 c2 : Nat) :
 Calls Try.prog g (#[.agg #[.slice A0 n0 c0], .agg #[.int .i64 x, .int .i64 y, .slice A2 n2 c2]] ++ mLb b o) w fun e w' => e = .returned (.int .i64 (mMost n n0 y n2)) ∧ Below w.heap.size w w' := by
 obtain ⟨-, -, -, m2, -, -, m5, -, m7, -⟩ := hm
 rcases mG_cases h1 h2 hG with rfl | rfl | rfl | rfl | rfl | rfl | rfl | rfl <;> (simp only [mG, List.getD_cons_succ, List.getD_cons_zero, Option.some.injEq, Prod.mk.injEq] at hG; obtain ⟨rfl, rfl⟩ := hG)
 · exact most_box (b + 2) 100 _ _ w ((Qaf m2 0).trans rfl)
 · exact most_temps _ x y _ w
 · exact most_temps _ x y _ w
 · exact most_ops _ x y A2 n2 c2 w
 · exact most_ops _ x y A2 n2 c2 w
 · exact most_methods _ A0 n0 c0 w
 · exact most_box (b + 5) 4 _ _ w ((Qaf m5 0).trans rfl)
 · exact most_box (b + 7) 4 _ _ w ((Qaf m7 0).trans rfl)
end Go.Proofs.Ytabcijheemjplaa.G
namespace Go.Proofs.Ytabcijheemjplaa.G
open Go.RowKit Go.Proofs.YtabcijheemjplaaW.PrintWords Go.Proofs.YtabcijheemjplaaW.PrintLast Go.Proofs.YtabcijheemjplaaW.PrintMore
attribute [local go_sem] QaQ QaR Qa3 Qa4 QaJ QaK QaS QaT
set_option linter.unusedVariables false
set_option linter.unusedSimpArgs false
def QbM.f (l0_0 : List (Qae)) (a1_0 : Int) (a1_1 : Int) : Option (Int × Int) :=
 if 1 ≤ a1_0 ∧ a1_0 ≤ 18 then (if a1_0 = 9 then (if 0 ≤ a1_1 ∧ a1_1 < (l0_0.length : Int) then some ((Qaa l0_0 a1_1).f0, 1) else some (0, 0)) else some (mTakes a1_0.toNat, mLeft a1_0.toNat)) else some (0, 0)
theorem Qcr {w w1 : World} {o1 o2 : Obj} (h : Below ((w.alloc o1).alloc o2).heap.size ((w.alloc o1).alloc o2) w1) : w1.heap[w.heap.size]? = some o1 ∧ w1.heap[w.heap.size + 1]? = some o2 ∧ Below w.heap.size w w1 ∧ w.heap.size + 2 ≤ w1.heap.size := by
 have h1 : ((w.alloc o1).alloc o2).heap[w.heap.size]? = some o1 := by
  show ((w.heap.push o1).push o2)[_]? = _
  simp only [Array.getElem?_push, Array.size_push]
  rw [if_neg (by omega), if_pos trivial]
 have h2 : ((w.alloc o1).alloc o2).heap[w.heap.size + 1]? = some o2 := by
  show ((w.heap.push o1).push o2)[_]? = _
  simp only [Array.getElem?_push, Array.size_push]
  rw [if_pos trivial]
 refine ⟨(h.block _ (Qbr h1)).trans h1, (h.block _ (Qbr h2)).trans h2, ?_, ?_⟩
 · exact Qap (Qal (Qal (Below.refl _ _) _) _) h
 · have := h.size
   simpa using this
set_option maxHeartbeats 2000000 in
set_option maxRecDepth 100000 in
theorem OpTakes_no (A0 : Option Addr) (c0 : Nat) (l0 : List Qae) (k a : Int) (w : World) (h : ¬ (1 ≤ k ∧ k ≤ 18)) :
 Calls Try.prog 104 #[.agg #[.slice A0 l0.length c0], .agg #[.int .i64 k, .int .i64 a]] w fun e w' => e = .returned (.tuple #[.int .i64 0, .int .i64 0]) ∧ Below w.heap.size w w' := by
 have H := Aside0.mk h
 clear h
 go_enter Try.func104, Try.ntmps104
 go_wp2_with (go_at_call 109; refine (mannerOf_no _ _ H.out).mono ?_; rintro e w1 ⟨rfl, hb⟩; obtain ⟨hb1, hb2, hb3, hb4⟩ := Qcr hb; have HB := Aside0.mk hb3; clear hb hb3)
 go_ret2
 exact ⟨rfl, by repeat (first | exact HB.out | apply Qal)⟩
set_option maxHeartbeats 2000000 in
set_option maxRecDepth 100000 in
theorem OpTakes_nil (A0 : Option Addr) (c0 : Nat) (l0 : List Qae) (k a : Int) (w : World) (h1 : 1 ≤ k) (h2 : k ≤ 18) (h9 : ¬ k = 9) (hF : mG k.toNat = none) :
 Calls Try.prog 104 #[.agg #[.slice A0 l0.length c0], .agg #[.int .i64 k, .int .i64 a]] w fun e w' => e = .returned (.tuple #[.int .i64 (mTakes k.toNat), .int .i64 (mLeft k.toNat)]) ∧ Below w.heap.size w w' := by
 have H1 := Aside0.mk h1
 have H2 := Aside0.mk h2
 have HF := Aside0.mk hF
 have e9 : (k != 9) = true := bne_iff_ne.mpr h9
 clear h1 h2 hF h9
 go_enter Try.func104, Try.ntmps104
 go_wp2_with (go_at_call 109; refine (mannerOf_nil _ _ H1.out H2.out HF.out).mono ?_; rintro e w1 ⟨b, rfl, hm, hge, hb⟩; obtain ⟨hb1, hb2, hb3, hb4⟩ := Qcr hb; have HB := Aside0.mk hb3; have hlt1 : w.heap.size + 1 < w1.heap.size := hb4; clear hb hb3 hm hge; have z0 : w1.cell? ⟨w.heap.size + 1, 0, none⟩ = some (.int .i64 k) := Qaf hb2 0)
 go_quiet (fail)
 go_wp2
 go_ret2
 exact ⟨rfl, by repeat (first | exact HB.out | apply Qal | apply Qar | apply Qav)⟩
set_option maxHeartbeats 2000000 in
set_option maxRecDepth 100000 in
theorem OpTakes_fn (A0 : Option Addr) (c0 : Nat) (l0 : List Qae) (k a : Int) (w : World) (g : Nat) (o : Option Nat) (h1 : 1 ≤ k) (h2 : k ≤ 18) (h9 : ¬ k = 9) (hF : mG k.toNat = some (g, o)) :
 Calls Try.prog 104 #[.agg #[.slice A0 l0.length c0], .agg #[.int .i64 k, .int .i64 a]] w fun e w' => e = .returned (.tuple #[.int .i64 (mTakes k.toNat), .int .i64 (mLeft k.toNat)]) ∧ Below w.heap.size w w' := by
 have H1 := Aside0.mk h1
 have H2 := Aside0.mk h2
 have HF := Aside0.mk hF
 have e9 : (k != 9) = true := bne_iff_ne.mpr h9
 clear h1 h2 hF h9
 go_enter Try.func104, Try.ntmps104
 go_wp2_with (go_at_call 109; refine (mannerOf_fn _ _ _ _ H1.out H2.out HF.out).mono ?_; rintro e w1 ⟨b, rfl, hm, hge, hb⟩; obtain ⟨hb1, hb2, hb3, hb4⟩ := Qcr hb; have HB := Aside0.mk hb3; have hlt1 : w.heap.size + 1 < w1.heap.size := hb4; clear hb hb3 hm hge; have z0 : w1.cell? ⟨w.heap.size + 1, 0, none⟩ = some (.int .i64 k) := Qaf hb2 0)
 go_quiet (fail)
 go_wp2
 go_ret2
 exact ⟨rfl, by repeat (first | exact HB.out | apply Qal | apply Qar | apply Qav)⟩
theorem Qcu (w : World) : Calls Try.prog 109 #[.int .i64 9] w fun e w' => e = .returned (.tuple #[.agg #[.string ⟨#[99, 97, 108, 108]⟩, .int .i64 0, .int .i64 1, .slice none 0 0, .func (.func 146) #[] #[]], .bool true]) ∧ Below w.heap.size w w' :=
 (mannerOf_fn 9 w 146 none (by decide) (by decide) rfl).mono fun e w' ⟨b, he, _, _, hb⟩ => ⟨he, hb⟩
set_option maxHeartbeats 2000000 in
set_option maxRecDepth 100000 in
theorem OpTakes_out (A0 : Option Addr) (c0 : Nat) (l0 : List Qae) (a : Int) (w : World) (hl : l0.length ≤ 9223372036854775807) (h : ¬ (0 ≤ a ∧ a < (l0.length : Int))) :
 Calls Try.prog 104 #[.agg #[.slice A0 l0.length c0], .agg #[.int .i64 9, .int .i64 a]] w fun e w' => e = .returned (.tuple #[.int .i64 0, .int .i64 0]) ∧ Below w.heap.size w w' := by
 have h : decide (0 ≤ a) = false ∨ (decide (0 ≤ a) = true ∧ decide (a ≤ (l0.length : Int) - 1) = false) := by
  by_cases h1 : 0 ≤ a
  · exact .inr ⟨by simpa using h1, by simp; omega⟩
  · exact .inl (by simpa using h1)
 rcases h with h1 | ⟨h1, h2⟩
 · go_enter Try.func104, Try.ntmps104
   go_wp2_with (first | (go_at_call 62; go_in) | (go_at_call 109; refine (Qcu _).mono ?_; rintro e w1 ⟨rfl, hb⟩; obtain ⟨hb1, hb2, hb3, hb4⟩ := Qcr hb; have HB := Aside0.mk hb3; have hlt1 : w.heap.size + 1 < w1.heap.size := hb4; have hlt0 : w.heap.size < w1.heap.size := Nat.lt_of_succ_lt hb4; clear hb hb3; have z0 : w1.cell? ⟨w.heap.size + 1, 0, none⟩ = some (.int .i64 9) := Qaf hb2 0; have z1 : w1.cell? ⟨w.heap.size + 1, 1, none⟩ = some (.int .i64 a) := Qaf hb2 1; have z2 : w1.cell? ⟨w.heap.size, 0, none⟩ = some (.slice A0 l0.length c0) := Qaf hb1 0))
   go_ret2
   exact ⟨rfl, by repeat (first | exact HB.out | apply Qal | apply Qar | apply Qav)⟩
 · go_enter Try.func104, Try.ntmps104
   go_wp2_with (first | (go_at_call 62; go_in) | (go_at_call 109; refine (Qcu _).mono ?_; rintro e w1 ⟨rfl, hb⟩; obtain ⟨hb1, hb2, hb3, hb4⟩ := Qcr hb; have HB := Aside0.mk hb3; have hlt1 : w.heap.size + 1 < w1.heap.size := hb4; have hlt0 : w.heap.size < w1.heap.size := Nat.lt_of_succ_lt hb4; clear hb hb3; have z0 : w1.cell? ⟨w.heap.size + 1, 0, none⟩ = some (.int .i64 9) := Qaf hb2 0; have z1 : w1.cell? ⟨w.heap.size + 1, 1, none⟩ = some (.int .i64 a) := Qaf hb2 1; have z2 : w1.cell? ⟨w.heap.size, 0, none⟩ = some (.slice A0 l0.length c0) := Qaf hb1 0))
   go_ret2
   exact ⟨rfl, by repeat (first | exact HB.out | apply Qal | apply Qar | apply Qav)⟩
set_option maxHeartbeats 2000000 in
set_option maxRecDepth 100000 in
theorem OpTakes_in (A0 : Option Addr) (c0 : Nat) (l0 : List Qae) (a : Int) (w : World) (hr0 : Kd.C QaD w A0 l0.length l0) (hl : l0.length ≤ 9223372036854775807) (h1 : 0 ≤ a) (h2 : a < (l0.length : Int)) :
 Calls Try.prog 104 #[.agg #[.slice A0 l0.length c0], .agg #[.int .i64 9, .int .i64 a]] w fun e w' => e = .returned (.tuple #[.int .i64 (Qaa l0 a).f0, .int .i64 1]) ∧ Below w.heap.size w w' := by
 obtain ⟨ad, A2, c2, rfl, hx0, hx1, hx2, -, -⟩ := Qba hr0 a h1 h2
 have HX := Aside0.mk hx0
 have d1 : decide (0 ≤ a) = true := by simpa using h1
 have d2 : decide (a ≤ (l0.length : Int) - 1) = true := by simp; omega
 have d3 : decide (a < (l0.length : Int)) = true := by simpa using h2
 clear hx0 hx1 hx2
 go_enter Try.func104, Try.ntmps104
 go_wp2_with (first | (go_at_call 62; go_in) | (go_at_call 109; refine (Qcu _).mono ?_; rintro e w1 ⟨rfl, hb⟩; obtain ⟨hb1, hb2, hb3, hb4⟩ := Qcr hb; have hx := QaI hb3 HX.out; have hxl := World.block_lt_of_cell? w1 _ hx; have HB := Aside0.mk hb3; have hlt1 : w.heap.size + 1 < w1.heap.size := hb4; have hlt0 : w.heap.size < w1.heap.size := Nat.lt_of_succ_lt hb4; clear hb hb3; have z0 : w1.cell? ⟨w.heap.size + 1, 0, none⟩ = some (.int .i64 9) := Qaf hb2 0; have z1 : w1.cell? ⟨w.heap.size + 1, 1, none⟩ = some (.int .i64 a) := Qaf hb2 1; have z2 : w1.cell? ⟨w.heap.size, 0, none⟩ = some (.slice (some ad) l0.length c0) := Qaf hb1 0))
 go_quiet (fail)
 go_wp2
 go_ret2
 exact ⟨rfl, by repeat (first | exact HB.out | apply Qal | apply Qar | apply Qav)⟩
theorem QbM.calls (A0_0 : Option Addr) (c0_0 : Nat) (l0_0 : List (Qae)) (a1_0 : Int) (a1_1 : Int) (r1 : Int) (r2 : Int) (w : World) (hr0_0 : Kd.C QaD w A0_0 l0_0.length l0_0) (hc0_0 : l0_0.length ≤ c0_0) (h : QbM.f l0_0 a1_0 a1_1 = some (r1, r2)) :
 Calls Try.prog 104 #[.agg #[.slice A0_0 l0_0.length c0_0], .agg #[.int .i64 a1_0, .int .i64 a1_1]] w fun e w' => e = .returned (.tuple #[.int .i64 r1, .int .i64 r2]) ∧ Below w.heap.size w w' := by
 have hl : l0_0.length ≤ 9223372036854775807 := hr0_0.2.1
 unfold QbM.f at h
 by_cases hk : 1 ≤ a1_0 ∧ a1_0 ≤ 18
 · rw [if_pos hk] at h
   by_cases h9 : a1_0 = 9
   · subst h9
     rw [if_pos rfl] at h
     by_cases hin : 0 ≤ a1_1 ∧ a1_1 < (l0_0.length : Int)
     · rw [if_pos hin] at h
       simp only [Option.some.injEq, Prod.mk.injEq] at h
       obtain ⟨rfl, rfl⟩ := h
       exact OpTakes_in A0_0 c0_0 l0_0 a1_1 w hr0_0 hl hin.1 hin.2
     · rw [if_neg hin] at h
       simp only [Option.some.injEq, Prod.mk.injEq] at h
       obtain ⟨rfl, rfl⟩ := h
       exact OpTakes_out A0_0 c0_0 l0_0 a1_1 w hl hin
   · rw [if_neg h9] at h
     simp only [Option.some.injEq, Prod.mk.injEq] at h
     obtain ⟨rfl, rfl⟩ := h
     cases hg : mG a1_0.toNat with
     | none => exact OpTakes_nil A0_0 c0_0 l0_0 a1_0 a1_1 w hk.1 hk.2 h9 hg
     | some go => exact OpTakes_fn A0_0 c0_0 l0_0 a1_0 a1_1 w go.1 go.2 hk.1 hk.2 h9 hg
 · rw [if_neg hk] at h
   simp only [Option.some.injEq, Prod.mk.injEq] at h
   obtain ⟨rfl, rfl⟩ := h
   exact OpTakes_no A0_0 c0_0 l0_0 a1_0 a1_1 w hk
end Go.Proofs.Ytabcijheemjplaa.G
