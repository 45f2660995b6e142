import Derived.Test.YtcllkemhlhbdgaaK9c2bc3f5
import Derived.Test.YtcllkemhlhbdgaaK58bd07e8
import Derived.Shelf.Abstract
namespace Go.Proofs.Ytcllkemhlhbdgaa.G
open Go.RowKit Go.Proofs.YtcllkemhlhbdgaaW.PrintWords Go.Proofs.YtcllkemhlhbdgaaW.PrintLast Go.Proofs.YtcllkemhlhbdgaaW.PrintMore
attribute [local go_sem] max2_int min2_int max_two min_two max_three min_three max_four min_four
set_option linter.unusedVariables false
set_option linter.unusedSimpArgs false
def impl_ProgOk.f (l0_0 : List (S_impl_Method)) : Option Bool := some (progOkB l0_0)
set_option maxHeartbeats 2000000 in
set_option maxRecDepth 100000 in
theorem ProgOk_few (A0 : Option Addr) (c0 : Nat) (l : List S_impl_Method) (w : World) (h : ¬ (1 ≤ l.length ∧ l.length ≤ 4)) :
    Calls Try.prog 27 #[.agg #[.slice A0 l.length c0]] w fun e w' => e = .returned (.bool false) ∧ Below w.heap.size w w' := by
  have h : decide (1 ≤ (l.length : Int)) = false ∨ (decide (1 ≤ (l.length : Int)) = true ∧ decide ((l.length : Int) ≤ 4) = false) := by
    by_cases h1 : 1 ≤ l.length
    · exact .inr ⟨by simp; omega, by simp; omega⟩
    · exact .inl (by simp; omega)
  rcases h with h1 | ⟨h1, h2⟩
  · go_enter Try.func27, Try.ntmps27
    go_wp2_with (go_at_call 60; refine (in_any _ _ _ _).mono ?_; rintro e w3 ⟨rfl, rfl⟩)
    go_ret
    exact ⟨rfl, below_alloc (Below.refl _ _) _⟩
  · go_enter Try.func27, Try.ntmps27
    go_wp2_with (go_at_call 60; refine (in_any _ _ _ _).mono ?_; rintro e w3 ⟨rfl, rfl⟩)
    go_ret
    exact ⟨rfl, below_alloc (Below.refl _ _) _⟩
set_option maxHeartbeats 2000000 in
set_option maxRecDepth 100000 in
theorem ProgOk_args (A0 : Option Addr) (c0 : Nat) (l : List S_impl_Method) (w : World) (h1 : 1 ≤ l.length) (h2 : l.length ≤ 4) (hr : Kd.C k_impl_Method w A0 l.length l) (h3 : ¬ (rd_impl_Method l 0).f0 = 0) :
    Calls Try.prog 27 #[.agg #[.slice A0 l.length c0]] w fun e w' => e = .returned (.bool false) ∧ Below w.heap.size w w' := by
  obtain ⟨ad, A2, c2, rfl, hx0, -, -, -, -⟩ := at_impl_Method hr 0 (by omega) (by omega)
  have d1 : decide (1 ≤ (l.length : Int)) = true := decide_eq_true (by omega)
  have d2 : decide ((l.length : Int) ≤ 4) = true := decide_eq_true (by omega)
  have d0 : decide (0 < l.length) = true := decide_eq_true (by omega)
  have i1 : (0 : Int) < (l.length : Int) := by omega
  have i2 : 0 < l.length := by omega
  have d3 : ((rd_impl_Method l 0).f0 != 0) = true := bne_iff_ne.mpr h3
  have hx := pw_cell_below (below_alloc (Below.refl _ _) (.cells #[.slice (some ad) l.length c0] 46)) hx0
  simp only [Int.toNat_zero, Nat.zero_mul] at hx
  have e0 : ad.add 0 = ad := by unfold Addr.add; simp
  rw [e0] at hx
  clear h1 h2 h3 hx0 hr e0 d0
  go_enter Try.func27, Try.ntmps27
  go_wp2_with (go_at_call 60; refine (in_any _ _ _ _).mono ?_; rintro e w3 ⟨rfl, rfl⟩)
  go_ret
  exact ⟨rfl, below_alloc (Below.refl _ _) _⟩
set_option maxHeartbeats 2000000 in
set_option maxRecDepth 100000 in
theorem ProgOk_all (A0 : Option Addr) (c0 : Nat) (l : List S_impl_Method) (w : World) (h1 : 1 ≤ l.length) (h2 : l.length ≤ 4) (hr : Kd.C k_impl_Method w A0 l.length l) (h3 : (rd_impl_Method l 0).f0 = 0) :
    Calls Try.prog 27 #[.agg #[.slice A0 l.length c0]] w fun e w' => e = .returned (.bool (!(l.any (methodBadB l.length)))) ∧ Below w.heap.size w w' := by
  have HR := Aside0.mk hr
  obtain ⟨ad, A2, c2, rfl, hx0, -, -, -, -⟩ := at_impl_Method hr 0 (by omega) (by omega)
  have d1 : decide (1 ≤ (l.length : Int)) = true := decide_eq_true (by omega)
  have d2 : decide ((l.length : Int) ≤ 4) = true := decide_eq_true (by omega)
  have i1 : (0 : Int) < (l.length : Int) := by omega
  have i2 : 0 < l.length := by omega
  have d3 : ((rd_impl_Method l 0).f0 != 0) = false := bne_eq_false_iff_eq.mpr h3
  have hx := pw_cell_below (below_alloc (Below.refl _ _) (.cells #[.slice (some ad) l.length c0] 46)) hx0
  simp only [Int.toNat_zero, Nat.zero_mul] at hx
  have e0 : ad.add 0 = ad := by unfold Addr.add; simp
  rw [e0] at hx
  have BK := Aside0.mk (blk_new w (.cells #[.slice (some ad) l.length c0] 46))
  have N0 := Aside0.mk (show l.length ≤ 9223372036854775807 by omega)
  clear h1 h2 h3 hx0 hr e0
  go_enter Try.func27, Try.ntmps27
  go_wp2_with (first | (go_at_call 60; refine (in_any _ _ _ _).mono ?_; rintro e w3 ⟨rfl, rfl⟩) | (go_at_call 63; refine (contains_impl_Method 64 _ progok1_enters (methodBadB l.length) _ _ _ _ ?hc ?hq).mono ?_; (case hc => exact Kd.C_alloc HR.out _); (case hq => intro W hW m cs hm hK; exact (progok1_calls m w.heap.size (some ad) l.length c0 cs W N0.out (blk_cell ((hW.block _ (blk_lt BK.out)).trans BK.out) 0) hK).mono fun e w' ⟨he, hb⟩ => ⟨he, below_then hW hW.size hb⟩); rintro e w1 ⟨rfl, hb⟩; have HB := Aside0.mk (below_step (below_alloc (Below.refl _ _) _) hb : Below w.heap.size w w1); clear hb))
  go_ret
  exact ⟨rfl, HB.out⟩
theorem impl_ProgOk.calls (A0_0 : Option Addr) (c0_0 : Nat) (l0_0 : List (S_impl_Method)) (r : Bool) (w : World) (hr0_0 : Kd.C k_impl_Method w A0_0 l0_0.length l0_0) (hc0_0 : l0_0.length ≤ c0_0) (h : impl_ProgOk.f l0_0 = some r) :
    Calls Try.prog 27 #[.agg #[.slice A0_0 l0_0.length c0_0]] w fun e w' => e = .returned (.bool r) ∧ Below w.heap.size w w' := by
  unfold impl_ProgOk.f progOkB at h
  obtain rfl := Option.some.inj h
  by_cases h1 : 1 ≤ l0_0.length ∧ l0_0.length ≤ 4
  · by_cases h3 : (rd_impl_Method l0_0 0).f0 = 0
    · rw [if_pos ⟨h1.1, h1.2, h3⟩]
      exact ProgOk_all A0_0 c0_0 l0_0 w h1.1 h1.2 hr0_0 h3
    · rw [if_neg (fun h => h3 h.2.2)]
      exact ProgOk_args A0_0 c0_0 l0_0 w h1.1 h1.2 hr0_0 h3
  · rw [if_neg (fun h => h1 ⟨h.1, h.2.1⟩)]
    exact ProgOk_few A0_0 c0_0 l0_0 w h1
end Go.Proofs.Ytcllkemhlhbdgaa.G
