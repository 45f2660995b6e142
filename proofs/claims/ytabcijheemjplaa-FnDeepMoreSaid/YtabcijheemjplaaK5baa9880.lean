import Derived.Test.YtabcijheemjplaaK6ca9bb5a
import Derived.Test.YtabcijheemjplaaK193084db
import Derived.IntWalk
namespace Go.Proofs.Ytabcijheemjplaa.G
open Go.RowKit Go.Proofs.YtabcijheemjplaaW.PrintWords Go.Proofs.YtabcijheemjplaaW.PrintLast
theorem xor_small (a b : Int) (h1 : 0 ≤ a) (h2 : a < 4611686018427387904) (h3 : 0 ≤ b) (h4 : b < 4611686018427387904) : 0 ≤ bits .xor .i64 a b := by
 obtain ⟨a, rfl⟩ := Int.eq_ofNat_of_zero_le h1
 obtain ⟨b, rfl⟩ := Int.eq_ofNat_of_zero_le h3
 have hx : a ^^^ b < 2 ^ 62 := Nat.xor_lt_two_pow (by omega) (by omega)
 have e1 : (BitVec.ofInt 64 (a : Int)).toNat = a := by
  rw [BitVec.ofInt_natCast, BitVec.toNat_ofNat]; exact Nat.mod_eq_of_lt (by omega)
 have e2 : (BitVec.ofInt 64 (b : Int)).toNat = b := by
  rw [BitVec.ofInt_natCast, BitVec.toNat_ofNat]; exact Nat.mod_eq_of_lt (by omega)
 show 0 ≤ IntKind.i64.wrap ((BitVec.ofInt 64 (a : Int) ^^^ BitVec.ofInt 64 (b : Int)).toNat : Int)
 rw [BitVec.toNat_xor, e1, e2, IntWalk.i64_in _ (by omega)]
 omega
theorem rd_byte {l : List Int} (hl : ∀ x, x ∈ l → 0 ≤ x ∧ x ≤ 255) (i : Int) : 0 ≤ rd l i ∧ rd l i ≤ 255 := by
 unfold rd
 rw [List.getD_eq_getElem?_getD]
 cases h : l[i.toNat]? with
 | none => simp
 | some x => exact hl x (List.mem_of_getElem? h)
def QbG (s : List Int) (p : Int) : Prop := s.length ≤ 1048576 ∧ (∀ x, x ∈ s → 0 ≤ x ∧ x ≤ 255) ∧ 0 ≤ p
theorem QbG.next {s : List Int} {p : Int} (h : QbG s p) : QbG s (p + 1) := ⟨h.1, h.2.1, by have := h.2.2; omega⟩
theorem pick_tells {s : List Int} {p : Int} (hc : QbG s p) (hp : p ≤ 1000000000) (n : Int) : ∃ r, (∀ k, Qab.f (k + 1) s p n = some (r, p + 1)) ∧ 0 ≤ r ∧ (1 ≤ n → r < n) := by
 obtain ⟨h1, h2, h3⟩ := hc
 unfold Qab.f
 rw [w64 (x := p + 1) (by omega) (by omega)]
 by_cases hn : n < 1
 · exact ⟨0, fun k => by rw [if_pos hn]; rfl, by omega, by omega⟩
 · simp only [if_neg hn]
   by_cases h0 : (s.length : Int) = 0
   · refine ⟨0, fun k => ?_, by omega, by omega⟩
     rw [Qab.j0]
     rw [if_pos (by rw [h0]; rfl)]
   · have hb : ((s.length : Int) == 0) = false := beq_eq_false_iff_ne.mpr h0
     rw [hb]
     have e1 : wrap64 (p + 1 - 1) = p := by rw [w64 (by omega) (by omega)]; omega
     have hL : (1 : Int) ≤ s.length := by omega
     by_cases hp1 : p < (s.length : Int)
     · have b1 := rd_byte h2 p
       refine ⟨Int.tmod (rd s p) n, fun k => ?_, Int.tmod_nonneg _ b1.1, fun h => Int.tmod_lt_of_pos _ (by omega)⟩
       rw [Qab.j0]
       rw [if_neg (by simp), e1, if_pos hp1, if_pos h3, if_neg (by omega), w64 (by omega) (by omega)]
     · have b1 := rd_byte h2 (Int.tmod p (s.length : Int))
       have e2 : wrap64 (wrap64 (p * 7) + 3) = p * 7 + 3 := by rw [w64 (x := p * 7) (by omega) (by omega), w64 (by omega) (by omega)]
       have b2 := rd_byte h2 (Int.tmod (p * 7 + 3) (s.length : Int))
       have m1 : 0 ≤ Int.tmod p (s.length : Int) := Int.tmod_nonneg _ h3
       have m2 : Int.tmod p (s.length : Int) < (s.length : Int) := Int.tmod_lt_of_pos _ (by omega)
       have m3 : 0 ≤ Int.tmod (p * 7 + 3) (s.length : Int) := Int.tmod_nonneg _ (by omega)
       have m4 : Int.tmod (p * 7 + 3) (s.length : Int) < (s.length : Int) := Int.tmod_lt_of_pos _ (by omega)
       have d0 : 0 ≤ Int.tdiv p (s.length : Int) := Int.tdiv_nonneg h3 (by omega)
       have d1 : Int.tdiv p (s.length : Int) ≤ p := Int.tdiv_le_self _ h3
       generalize hx1 : rd s (Int.tmod p (s.length : Int)) = x1 at *
       generalize hx2 : rd s (Int.tmod (p * 7 + 3) (s.length : Int)) = x2 at *
       generalize hd : Int.tdiv p (s.length : Int) = d at *
       have t0 : 0 ≤ Int.tdiv (x1 * 131 + x2 * 1117 + p * 29 + d * 53) 64 := Int.tdiv_nonneg (by omega) (by omega)
       have t1 : Int.tdiv (x1 * 131 + x2 * 1117 + p * 29 + d * 53) 64 ≤ x1 * 131 + x2 * 1117 + p * 29 + d * 53 := Int.tdiv_le_self _ (by omega)
       have hx := xor_small (x1 * 131 + x2 * 1117 + p * 29 + d * 53) (Int.tdiv (x1 * 131 + x2 * 1117 + p * 29 + d * 53) 64) (by omega) (by omega) t0 (by omega)
       refine ⟨Int.tmod (bits .xor .i64 (x1 * 131 + x2 * 1117 + p * 29 + d * 53) (Int.tdiv (x1 * 131 + x2 * 1117 + p * 29 + d * 53) 64)) n, fun k => ?_, Int.tmod_nonneg _ hx, fun h => Int.tmod_lt_of_pos _ (by omega)⟩
       rw [Qab.j0]
       rw [if_neg (by simp), e1, if_neg hp1, if_neg h0, if_pos m1, if_pos m2, e2, if_pos m3, if_pos m4, if_neg (by omega), hx1, hx2, hd]
       rw [w64 (x := x1) (by omega) (by omega), w64 (x := x2) (by omega) (by omega), w64 (x := x1 * 131) (by omega) (by omega), w64 (x := x2 * 1117) (by omega) (by omega), w64 (x := x1 * 131 + x2 * 1117) (by omega) (by omega), w64 (x := p * 29) (by omega) (by omega),
        w64 (x := x1 * 131 + x2 * 1117 + p * 29) (by omega) (by omega), w64 (x := d) (by omega) (by omega), w64 (x := d * 53) (by omega) (by omega), w64 (x := x1 * 131 + x2 * 1117 + p * 29 + d * 53) (by omega) (by omega), w64 (x := Int.tdiv _ 64) (by omega) (by omega)]
end Go.Proofs.Ytabcijheemjplaa.G
