import Derived.Test.YtabcijheemjplaaRows
import Derived.Test.YtabcijheemjplaaKa7cc95cd
import Derived.Test.YtabcijheemjplaaK0af8c23d
import Derived.Test.YtabcijheemjplaaK2be0c184
import Derived.WalkKit
import Derived.ProofKit
import Derived.OpenShut
import Derived.ShutString
import Derived.ChangeOld
import Derived.Below
import Derived.SizedLaws
import Derived.Carry
namespace Go.Proofs.Ytabcijheemjplaa.fnExactHeapOk
open Go.ChangeShapes Go.WideShapes Go.ChangeAt Go.RowKit
open Go.ChangeMaps (open_string shut_string)
set_option linter.unusedVariables false
theorem own : ownKnob Try.prog.godebug = none := by kernel_rfl
theorem laidOut : laidOutB Try.prog = true := by kernel_rfl
set_option maxRecDepth 100000 in
theorem lifted (P : G.laws_FnExactHeapOk.Pure) (os : Os) (started : os.Started) (H : Type) (enc : TypeId × Value → H) :
 ReturnsInHanded {} Try.checked os 8 .any (Rows.fnExactHeapOkSpec.pre6 enc Try.prog Try.f8 Rows.fnExactHeapOkRow.domain false) (Rows.fnExactHeapOkSpec.post enc Try.prog Try.f8 false true false false) := by
 refine returnsInHanded_of_change_sized (C := Try.checked) own started (by kernel_rfl) Try.func8
  (ChangeSpec.witness6 (enc := enc) (C := Try.checked) false ⟨#[], #[.agg #[.slice none 0 0], .agg #[.slice none 0 0, .int .i64 0, .int .i64 0, .slice none 0 0, .int .i64 0]], []⟩ 8 (by kernel_rfl) (by kernel_rfl) (by kernel_rfl) (by kernel_rfl)) ?_
 intro W base args ds gs before hval0 hW hcnd hsz0 _
 have hsz : (DataW.weightsEach Try.prog (Try.f8.params.toList ++ Rows.fnExactHeapOkSpec.plain.varTypes Try.prog) (ds ++ gs)).all (· ≤ reachBytes) = true := hsz0
 have hval : ∀ (j : Nat) t v, Try.f8.params[j]? = some t → args[j]? = some v → Value.okWide Try.prog W .any base t v := hval0
 have hW' := hW
 obtain ⟨p, q, hA0, hV, rfl, hfz, hnd⟩ := hW
 have hA : DataW.TrodAll enc Try.prog W 0 (fun _ => true) true Try.f8.params.toList args.toList ds p := hA0
 rw [Try.params8] at hA hval hsz
 obtain ⟨v0, vs0, d0, ds0, p0, q0, hargs, rfl, rfl, h0, r0⟩ := trodAll_cons hA
 obtain ⟨v1, vs1, d1, ds1, p1, q1, rfl, rfl, rfl, h1, r1⟩ := trodAll_cons r0
 obtain ⟨rfl, rfl, rfl⟩ := trodAll_nil r1
 obtain rfl : args = #[v0, v1] := by cases args; simp_all
 obtain ⟨rfl, rfl⟩ := trodVars_none hV
 have k0 := h0
 have lt0 : ∀ x ∈ p0, x.block < W.heap.size := by obtain ⟨m, hm⟩ := k0; exact DataW.trod_lt m _ _ _ hm
 obtain ⟨cs0, rfl, -⟩ := okWide_struct Try.underlying41 (hval 0 41 v0 rfl rfl)
 obtain ⟨fu0, hf0⟩ := h0
 obtain ⟨x0, hK0, w0⟩ := G.opens_laws_Prog _ _ _ _ _ _ _ _ _ hf0
 obtain ⟨A0_0, c0_0, hc0, l0_0, g0_0⟩ := G.k_laws_Prog_open hK0
 have hc0' : cs0 = #[.slice A0_0 x0.f0.length c0_0] := by apply Array.toList_inj.1; exact hc0
 subst hc0'
 have k1 := h1
 have lt1 : ∀ x ∈ p1, x.block < W.heap.size := by obtain ⟨m, hm⟩ := k1; exact DataW.trod_lt m _ _ _ hm
 obtain ⟨cs1, rfl, -⟩ := okWide_struct Try.underlying61 (hval 1 61 v1 rfl rfl)
 obtain ⟨fu1, hf1⟩ := h1
 obtain ⟨x1, hK1, w1⟩ := G.opens_laws_Heap _ _ _ _ _ _ _ _ _ hf1
 obtain ⟨A1_0, c1_0, A1_3, c1_3, hc1, l1_0, g1_0, l1_3, g1_3⟩ := G.k_laws_Heap_open hK1
 have hc1' : cs1 = #[.slice A1_0 x1.f0.length c1_0, .int .i64 x1.f1, .int .i64 x1.f2, .slice A1_3 x1.f3.length c1_3, .int .i64 x1.f4] := by apply Array.toList_inj.1; exact hc1
 subst hc1'
 clear hA0 hval0 hsz0 hsz
 obtain ⟨k, hk⟩ := P x0 x1 w0 w1
 refine (G.laws_FnExactHeapOk.calls k A0_0 c0_0 x0.f0 A1_0 c1_0 x1.f0 x1.f1 x1.f2 A1_3 c1_3 x1.f3 x1.f4 true W g0_0 l0_0 g1_0 l1_0 g1_3 l1_3 hk).mono fun e W' ⟨he, bel⟩ => ?_
 subst he
 exact ⟨_, rfl, _, _, _, [], _, [], hW', trodAll_mk1 (shut_bool Try.underlying4 _), (trodAll_cons_mk (Below.trod laidOut (by kernel_rfl) (of_decide_eq_true (by kernel_rfl)) k0 bel lt0) (trodAll_cons_mk (Below.trod laidOut (by kernel_rfl) (of_decide_eq_true (by kernel_rfl)) k1 bel lt1) trodAll_mk0)), rfl, bel.frame _, fun h => by cases h⟩
theorem over (P : G.laws_FnExactHeapOk.Pure) : Rows.fnExactHeapOkRow.holds Try.pinned (OpenSpec.ofChange Rows.fnExactHeapOkSpec) :=
 OpenClaim.holds_of_wide 8 Try.f8 rfl rfl rfl rfl rfl rfl rfl ⟨rfl, rfl, rfl, rfl, rfl⟩ rfl rfl rfl rfl rfl (by kernel_rfl) Try.func8 (by kernel_rfl)
  (of_decide_eq_true (by kernel_rfl)) (by unfold Func.isWrapper; first | (rw [if_pos (by decide +kernel)]; kernel_rfl) | (rw [if_neg (by decide +kernel)]; exact ⟨rfl, rfl⟩))
  (fun os started H enc _ => lifted P os started H enc)
end Go.Proofs.Ytabcijheemjplaa.fnExactHeapOk
