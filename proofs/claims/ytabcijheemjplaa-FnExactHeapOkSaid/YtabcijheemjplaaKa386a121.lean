import Derived.Test.YtabcijheemjplaaK504cd682
import Derived.Shelf.Abstract
namespace Go.Proofs.Ytabcijheemjplaa.G
open Go.RowKit Go.Proofs.YtabcijheemjplaaW.PrintWords Go.Proofs.YtabcijheemjplaaW.PrintLast Go.Proofs.YtabcijheemjplaaW.PrintMore
attribute [local go_sem] Qa3 Qa4 Qbc Qbd QaP QaQ Qa5 Qa6
set_option linter.unusedVariables false
set_option linter.unusedSimpArgs false
set_option maxHeartbeats 4000000 in
set_option maxRecDepth 100000 in
theorem idx_impl_Val (g : Nat) (lb : Array Value) (eg : ∀ args w, (callFunc g args).run Try.prog w = .ok (.enter g args) w) (p : Qao → Bool) (A : Option Addr) (c : Nat) (l : List Qao) (w : World) (hr : Kd.C QaN w A l.length l)
 (hp : ∀ W, Below w.heap.size w W → ∀ x cs, x ∈ l → (QaN).K W x cs → Calls Try.prog g (#[.agg cs.toArray] ++ lb) W fun e w' => e = .returned (.bool (p x)) ∧ Below w.heap.size w w') :
 Calls Try.prog 134 #[.slice A l.length c, .func (.func g) #[] lb] w fun e w' => (∃ i : Int, e = .returned (.int .i64 i) ∧ decide (0 ≤ i) = l.any p) ∧ Below w.heap.size w w' := by
 have hl : l.length ≤ 9223372036854775807 := hr.2.1
 have HP := Aside0.mk hp
 have HR := Aside0.mk hr
 clear hp hr
 go_enter Try.func134, Try.ntmps134
 go_wp2
 go_loopg [5, 8] l.length (fun gg _ s8 wr => ∃ kk : Nat, kk ≤ l.length ∧ l.length - kk ≤ gg ∧ s8 = .int .i64 kk ∧ Aside0 (Below w.heap.size w wr) ∧ Aside0 (∀ j x, j < kk → l[j]? = some x → p x = false))
 case atStart => exact ⟨0, Nat.zero_le _, by omega, rfl, ⟨Below.refl _ w⟩, ⟨fun j x hj => absurd hj (Nat.not_lt_zero _)⟩⟩
 case round =>
  obtain ⟨kk, hkk, hg, rfl, BW, A0⟩ := hrel
  by_cases hlt : kk < l.length
  · have hltz : (kk : Int) < (l.length : Int) := by omega
    have hmem : Qaw l kk ∈ l := by
     unfold Qaw
     rw [List.getD_eq_getElem?_getD, Int.toNat_natCast, List.getElem?_eq_getElem hlt]
     exact List.getElem_mem hlt
    have hget : l[kk]? = some (Qaw l kk) := by
     unfold Qaw
     rw [List.getD_eq_getElem?_getD, Int.toNat_natCast, List.getElem?_eq_getElem hlt]
     rfl
    obtain ⟨ad, rfl, hx0, hx1⟩ := QbQ (Kd.C_below HR.out BW.out) (kk : Int) (by omega) hltz
    have hcall := HP.out wr BW.out (Qaw l kk) [.int .i64 (Qaw l kk).f0, .int .i64 (Qaw l kk).f1] hmem (k_impl_Val_mk wr _)
    simp only [Int.toNat_natCast] at hx0 hx1
    have GET := Aside0.mk hget
    clear hget hmem
    generalize hy : Qaw l kk = y at *
    clear hy
    cases hq : p y with
    | true =>
      rw [hq] at hcall
      go_wp2_with (go_at_fn g; refine hcall.mono ?_; rintro e w' ⟨rfl, hb'⟩)
      go_ret
      refine ⟨⟨_, rfl, ?_⟩, hb'⟩
      have h1 : l.any p = true := List.any_eq_true.mpr ⟨_, List.mem_of_getElem? GET.out, hq⟩
      rw [h1]
      exact decide_eq_true (by omega)
    | false =>
      rw [hq] at hcall
      go_wp2_with (go_at_fn g; refine hcall.mono ?_; rintro e w' ⟨rfl, hb'⟩)
      go_roundg (l.length - (kk + 1))
      case measure => omega
      case rel =>
       refine ⟨kk + 1, by omega, by omega, by go_num, ⟨hb'⟩, ⟨fun j x hj hx => ?_⟩⟩
       by_cases e : j = kk
       · subst e
         have := GET.out.symm.trans hx
         injection this with this
         rw [← this]; exact hq
       · exact A0.out j x (by omega) hx
  · have hltz : ¬ (kk : Int) < (l.length : Int) := by omega
    have : kk = l.length := by omega
    subst this
    go_wp2
    go_ret
    refine ⟨⟨_, rfl, ?_⟩, BW.out⟩
    have h1 : l.any p = false := by
     rw [List.any_eq_false]
     intro x hx
     obtain ⟨j, hj, rfl⟩ := List.mem_iff_getElem.mp hx
     have := A0.out j _ hj (List.getElem?_eq_getElem hj)
     simp [this]
    rw [h1]
    rfl
set_option maxHeartbeats 4000000 in
theorem QcN (g : Nat) (lb : Array Value) (eg : ∀ args w, (callFunc g args).run Try.prog w = .ok (.enter g args) w) (p : Qao → Bool) (A : Option Addr) (c : Nat) (l : List Qao) (w : World) (hr : Kd.C QaN w A l.length l)
 (hp : ∀ W, Below w.heap.size w W → ∀ x cs, x ∈ l → (QaN).K W x cs → Calls Try.prog g (#[.agg cs.toArray] ++ lb) W fun e w' => e = .returned (.bool (p x)) ∧ Below w.heap.size w w') :
 Calls Try.prog 119 #[.slice A l.length c, .func (.func g) #[] lb] w fun e w' => e = .returned (.bool (l.any p)) ∧ Below w.heap.size w w' := by
 have HP := Aside0.mk hp
 have HR := Aside0.mk hr
 clear hp hr
 go_enter Try.func119, Try.ntmps119
 go_wp2_with (go_at_call 134; refine (idx_impl_Val g lb eg p A c l _ HR.out HP.out).mono ?_; rintro e w' ⟨⟨i, rfl, hi⟩, hb'⟩; have HI := Aside0.mk hi; clear hi)
 go_ret
 exact ⟨by rw [← HI.out]; rfl, hb'⟩
end Go.Proofs.Ytabcijheemjplaa.G
namespace Go.Proofs.Ytabcijheemjplaa.G
open Go.RowKit Go.Proofs.YtabcijheemjplaaW.PrintWords Go.Proofs.YtabcijheemjplaaW.PrintLast Go.Proofs.YtabcijheemjplaaW.PrintMore
attribute [local go_sem] Qa3 Qa4 Qbc Qbd QaP QaQ Qa5 Qa6
set_option linter.unusedVariables false
set_option linter.unusedSimpArgs false
def Qb0 (v : Qao) (n : Int) : Bool := (QbR.f v.f0 v.f1 n).getD false
theorem Qcl (v : Qao) (n : Int) : QbR.f v.f0 v.f1 n = some (Qb0 v n) := by
 unfold Qb0
 have h : ∃ b, QbR.f v.f0 v.f1 n = some b := by
  unfold QbR.f Qbm.f
  repeat' first | exact ⟨_, rfl⟩ | split
 obtain ⟨b, h⟩ := h
 rw [h]
 rfl
theorem valsok1_enters : ∀ args w, (callFunc 135 args).run Try.prog w = .ok (.enter 135 args) w := enters_of Try.func135 (by kernel_rfl) rfl
set_option maxHeartbeats 2000000 in
theorem valsok1_calls (v : Qao) (b : Nat) (n : Int) (w : World) (hx : w.cell? ⟨b, 0, none⟩ = some (.int .i64 n)) :
 Calls Try.prog 135 (#[.agg #[.int .i64 v.f0, .int .i64 v.f1]] ++ #[.pointer (some ⟨b, 0, none⟩)]) w fun e w' => e = .returned (.bool (!Qb0 v n)) ∧ Below w.heap.size w w' := by
 have hlt : b < w.heap.size := World.block_lt_of_cell? w _ hx
 have HV := Aside0.mk (Qcl v n)
 generalize Qb0 v n = r at *
 go_enter Try.func135, Try.ntmps135
 go_wp2_with (go_at_call 118; refine (QbR.calls v.f0 v.f1 n r _ HV.out).mono ?_; rintro e w1 ⟨rfl, hb⟩; have HB := Aside0.mk (Qac (QaG (Below.refl _ _) _) hb : Below w.heap.size w w1); clear hb)
 go_ret
 exact ⟨rfl, HB.out⟩
def Qbn.f (l0 : List (Qao)) (a1 : Int) : Option Bool := some (l0.all fun v => Qb0 v a1)
theorem any_not_all {α : Type} (l : List α) (p : α → Bool) : l.any (fun v => !p v) = !l.all p := by
 induction l with
 | nil => rfl
 | cons x l ih => rw [List.any_cons, List.all_cons, ih, Bool.not_and]
set_option maxHeartbeats 2000000 in
theorem Qbn.calls (A0 : Option Addr) (c0 : Nat) (l0 : List (Qao)) (a1 : Int) (r : Bool) (w : World) (hr0 : Kd.C QaN w A0 l0.length l0) (hc0 : l0.length ≤ c0) (h : Qbn.f l0 a1 = some r) :
 Calls Try.prog 120 #[.slice A0 l0.length c0, .int .i64 a1] w fun e w' => e = .returned (.bool r) ∧ Below w.heap.size w w' := by
 unfold Qbn.f at h
 obtain rfl := Option.some.inj h
 clear h
 have HR := Aside0.mk hr0
 have BK := Aside0.mk (QcP w (.cells #[.int .i64 a1] 3))
 clear hr0
 go_enter Try.func120, Try.ntmps120
 go_wp2_with (go_at_call 119; refine (QcN 135 _ valsok1_enters (fun v => !Qb0 v a1) _ _ _ _ ?hc ?hq).mono ?_; (case hc => exact Kd.C_alloc HR.out _); (case hq => intro W hW v cs hv hK; obtain rfl := QcA hK; exact (valsok1_calls v w.heap.size a1 W (Qab ((hW.block _ (Qb1 BK.out)).trans BK.out) 0)).mono fun e w' ⟨he, hb⟩ => ⟨he, Qce hW hW.size hb⟩); rintro e w1 ⟨rfl, hb⟩; have HB := Aside0.mk (Qac (QaG (Below.refl _ _) _) hb : Below w.heap.size w w1); clear hb)
 go_ret
 exact ⟨by rw [any_not_all, Bool.not_not]; rfl, HB.out⟩
end Go.Proofs.Ytabcijheemjplaa.G
namespace Go.Proofs.Ytabcijheemjplaa.G
open Go.RowKit Go.Proofs.YtabcijheemjplaaW.PrintWords Go.Proofs.YtabcijheemjplaaW.PrintLast Go.Proofs.YtabcijheemjplaaW.PrintMore
attribute [local go_sem] Qa3 Qa4 Qbc Qbd QaP QaQ Qa5 Qa6
set_option linter.unusedVariables false
set_option linter.unusedSimpArgs false
def Qan.j0 : Nat → Int → Bool → Int → Int → List (Qao) → List (Qao) → Int → Bool → Option (Bool)
 | 0, _, _, _, _, _, _, _, _ => none
 | k + 1, x2, x41, x102000, x102001, x102002, x102003, x102004, x102005 => if x41 = true then (some false) else (if (x102003.length : Int) > 6 then (some false) else ((Qbn.f x102002 x2).bind fun t107 => (if t107 = true then ((Qbn.f x102003 x2).bind fun t108 => (if t108 = true then ((Qbm.f x102004 (-1) (wrap64 (x2 - 1))).bind fun t109 => (if t109 = true then (if x102005 = true then (if (x102003.length : Int) = 0 then (some (x102004 == (-1))) else (some false)) else (some true)) else (some false))) else (some false))) else (some false))))
def Qan.f (k : Nat) (a0_0 : Int) (a0_1 : Int) (l0_2 : List (Qao)) (l0_3 : List (Qao)) (a0_4 : Int) (a0_5 : Bool) (l1_0 : List (Qai)) (a2 : Int) : Option (Bool) := (Qbm.f a0_0 0 (wrap64 ((l1_0.length : Int) - 1))).bind fun t103 => (if t103 = true then (if 0 ≤ a0_0 then (if a0_0 < (l1_0.length : Int) then ((Qbm.f a0_1 0 (((Qae l1_0 a0_0).f2).length : Int)).bind fun t105 => (if t105 = true then (Qan.j0 k a2 ((l0_2.length : Int) != ((Qae l1_0 a0_0).f1)) a0_0 a0_1 l0_2 l0_3 a0_4 a0_5) else (Qan.j0 k a2 true a0_0 a0_1 l0_2 l0_3 a0_4 a0_5))) else (none)) else (none)) else (Qan.j0 k a2 true a0_0 a0_1 l0_2 l0_3 a0_4 a0_5))
theorem Qan.mono_l : ∀ k, (∀ y0 y1 y2 y3 y4 y5 y6 y7, LeO (Qan.j0 k y0 y1 y2 y3 y4 y5 y6 y7) (Qan.j0 (k + 1) y0 y1 y2 y3 y4 y5 y6 y7))
 | 0 => fun _ _ _ _ _ _ _ _ r h => by simp [Qan.j0] at h
 | k + 1 => by
   have ih0 := Qan.mono_l k
   · intro y0 y1 y2 y3 y4 y5 y6 y7
     unfold Qan.j0
     repeat' first
     | (with_reducible exact ih0 _ _ _ _ _ _ _ _)
     | (with_reducible exact LeO.refl _)
     | (with_reducible exact LeO.none _)
     | (with_reducible refine LeO.ite ?_ ?_)
     | (with_reducible refine LeO.bind ?_ (fun _ => ?_))
     | exact ih0 _ _ _ _ _ _ _ _
     | exact LeO.none _
     | refine LeO.ite ?_ ?_
     | refine LeO.bind ?_ (fun _ => ?_)
theorem Qan.mono : ∀ a0 a1 a2 a3 a4 a5 a6 a7 k, LeO (Qan.f k a0 a1 a2 a3 a4 a5 a6 a7) (Qan.f (k + 1) a0 a1 a2 a3 a4 a5 a6 a7) := by
 intro a0 a1 a2 a3 a4 a5 a6 a7 k
 have ih0 := Qan.mono_l k
 unfold Qan.f
 repeat' first
  | (with_reducible exact ih0 _ _ _ _ _ _ _ _)
  | (with_reducible exact LeO.refl _)
  | (with_reducible exact LeO.none _)
  | (with_reducible refine LeO.ite ?_ ?_)
  | (with_reducible refine LeO.bind ?_ (fun _ => ?_))
  | exact ih0 _ _ _ _ _ _ _ _
  | exact LeO.none _
  | refine LeO.ite ?_ ?_
  | refine LeO.bind ?_ (fun _ => ?_)
def Qan.T1 : Bool × List (List Nat × List Nat) := (true, [([], []), ([0], [0]), ([], []), ([2], [2]), ([3], [3]), ([4], [4]), ([1, 5], [1, 5]), ([6], [6]), ([7, 6], [7]), ([8], [8]), ([9, 8], [8, 9]), ([8], [8]), ([11, 8], [8, 11]), ([8], [8]), ([13, 8], [8, 13]), ([12, 14, 8], [8, 12, 14]), ([15, 8], [8, 15]), ([16, 8], [8, 16]), ([17, 8], [8, 17]), ([10, 18, 8, 8], [8, 10, 18]), ([19, 8], [8, 19]), ([8, 20], [8, 20]), ([21, 19], [21]), ([22], [22]), ([23, 22], [22, 23]), ([24, 22], [22, 24]), ([22], [22]), ([26, 22], [22, 26]), ([22], [22]), ([28, 22], [22, 28]), ([27, 29, 22], [22, 27, 29]), ([30, 22], [22, 30]), ([31, 22], [22, 31]), ([25, 32, 22], [22, 25, 32]), ([22, 33], [22, 33])])
def Qan.B1 : List Nat := [0, 1, 0, 4, 12, 28, 63, 127, 255, 511, 1023, 511, 2559, 511, 8703, 31231, 63999, 129535, 260607, 524287, 1048575, 2097151, 4194303, 8388607, 16777215, 33554431, 8388607, 75497471, 8388607, 276824063, 1015021567, 2088763391, 4236247039, 8589934591, 17179869183]
theorem Qan.tab1 : rtab .any (opsOf Try.f82 1) = Qan.T1 := by kernel_rfl
theorem Qan.bits1 : Qcj Qan.T1.2 Qan.B1 = true := by kernel_rfl
set_option maxHeartbeats 8000000 in
set_option maxRecDepth 100000 in
theorem Qan.calls (k : Nat) (a0_0 : Int) (a0_1 : Int) (A0_2 : Option Addr) (c0_2 : Nat) (l0_2 : List (Qao)) (A0_3 : Option Addr) (c0_3 : Nat) (l0_3 : List (Qao)) (a0_4 : Int) (a0_5 : Bool) (A1_0 : Option Addr) (c1_0 : Nat) (l1_0 : List (Qai)) (a2 : Int) (r : Bool) (w : World) (hr0_2 : Kd.C QaN w A0_2 l0_2.length l0_2) (hc0_2 : l0_2.length ≤ c0_2) (hr0_3 : Kd.C QaN w A0_3 l0_3.length l0_3) (hc0_3 : l0_3.length ≤ c0_3) (hr1_0 : Kd.C QaI w A1_0 l1_0.length l1_0) (hc1_0 : l1_0.length ≤ c1_0) (h : Qan.f k a0_0 a0_1 l0_2 l0_3 a0_4 a0_5 l1_0 a2 = some r) :
 Calls Try.prog 82 #[.agg #[.int .i64 a0_0, .int .i64 a0_1, .slice A0_2 l0_2.length c0_2, .slice A0_3 l0_3.length c0_3, .int .i64 a0_4, .bool a0_5], .agg #[.slice A1_0 l1_0.length c1_0], .int .i64 a2] w fun e w' => e = .returned (.bool r) ∧ Below w.heap.size w w' := by
 have hu67 := Try.underlying67
 have hu25 := Try.underlying25
 have HR0_2 := Aside0.mk hr0_2
 have HC0_2 := Aside0.mk hc0_2
 clear hr0_2 hc0_2
 have HR0_3 := Aside0.mk hr0_3
 have HC0_3 := Aside0.mk hc0_3
 clear hr0_3 hc0_3
 have HR1_0 := Aside0.mk hr1_0
 have HC1_0 := Aside0.mk hc1_0
 clear hr1_0 hc1_0
 have HB := Aside0.mk (Below.refl w.heap.size w)
 have H : ((Qbm.f a0_0 0 (wrap64 ((l1_0.length : Int) - 1))).bind fun t103 => (if t103 = true then (if 0 ≤ a0_0 then (if a0_0 < (l1_0.length : Int) then ((Qbm.f a0_1 0 (((Qae l1_0 a0_0).f2).length : Int)).bind fun t105 => (if t105 = true then (Qan.j0 k a2 ((l0_2.length : Int) != ((Qae l1_0 a0_0).f1)) a0_0 a0_1 l0_2 l0_3 a0_4 a0_5) else (Qan.j0 k a2 true a0_0 a0_1 l0_2 l0_3 a0_4 a0_5))) else (none)) else (none)) else (Qan.j0 k a2 true a0_0 a0_1 l0_2 l0_3 a0_4 a0_5))) = some r := h
 clear h
 have HC4 := Aside0.mk H
 clear H
 go_enter Try.func82, Try.ntmps82
 go_upto_region 1 with (first | ((with_reducible refine Qaq (N := 3) rfl ?_); (try (refine Qbg (by rfl) ?_; dsimp only)); refine Qam ?hg (N := 3) ?hd (cs := #[.int .i64 a0_0, .int .i64 a0_1, .slice A0_2 l0_2.length c0_2, .slice A0_3 l0_3.length c0_3, .int .i64 a0_4, .bool a0_5]) (t := 67) ?hr ?_; (case hd => rfl); (case hg => rfl); (case hr => first | (go_simp; done) | (go_simp; rfl)); intro gb101 hg w5 hbox hb; have n0_ := Aside0.mk (Qac (bw_) hb); have n1_ := Aside0.mk (hbox); have n2_ := Aside0.mk ((gs_ hg bw_ : w.heap.size ≤ gb101)); have n3_ := Aside0.mk ((gs_ hg bw_ : w.heap.size ≤ gb101)); clear HB; have HB := n0_; have BK101 := n1_; have GW101 := n2_; have GE101 := n3_; clear n0_ n1_ n2_ n3_; clear hb hbox hg) | ((with_reducible refine Qaq (N := 4) rfl ?_); (try (refine Qbg (by rfl) ?_; dsimp only)); refine Qam ?hg (N := 4) ?hd (cs := #[.slice A1_0 l1_0.length c1_0]) (t := 25) ?hr ?_; (case hd => rfl); (case hg => rfl); (case hr => first | (go_simp; done) | (go_simp; rfl)); intro gb102 hg w6 hbox hb; have n0_ := Aside0.mk (bb_ BK101 hb); have n1_ := Aside0.mk (Qac (bw_) hb); have n2_ := Aside0.mk (hbox); have n3_ := Aside0.mk ((gs_ hg bw_ : w.heap.size ≤ gb102)); have n4_ := Aside0.mk ((gs_ hg bw_ : w.heap.size ≤ gb102)); have n5_ := Aside0.mk ((nl_ hg BK101 : gb101 ≠ gb102)); have n6_ := Aside0.mk ((ng_ hg BK101 : gb102 ≠ gb101)); clear BK101; clear HB; have BK101 := n0_; have HB := n1_; have BK102 := n2_; have GW102 := n3_; have GE102 := n4_; have NB101_102 := n5_; have NB102_101 := n6_; clear n0_ n1_ n2_ n3_ n4_ n5_ n6_; clear hb hbox hg))
 (try simp only [Act.put, List.setIfInBounds_toArray, List.set_cons_zero, List.set_cons_succ])
 go_cut [41] (fun v41 wc => ∃ (kq : Nat) (x41_3 : Bool), v41 = .bool x41_3 ∧ Aside0 (Qan.j0 kq a2 x41_3 a0_0 a0_1 l0_2 l0_3 a0_4 a0_5 = some r) ∧ Aside0 (kq ≤ k) ∧ Aside0 (wc.heap[gb101]? = some (.cells #[.int .i64 a0_0, .int .i64 a0_1, (.slice A0_2 l0_2.length c0_2), (.slice A0_3 l0_3.length c0_3), .int .i64 a0_4, .bool a0_5] 67 (0, 0))) ∧ Aside0 (wc.heap[gb102]? = some (.cells #[(.slice A1_0 l1_0.length c1_0)] 25 (0, 0))) ∧ Aside0 (Below w.heap.size w wc))
 case first =>
  have H := HC4.out
  clear HC4
  replace H := Option.bind_eq_some_iff.mp H
  obtain ⟨t103, A70, H⟩ := H
  replace H : (if t103 = true then (if 0 ≤ a0_0 then (if a0_0 < (l1_0.length : Int) then ((Qbm.f a0_1 0 (((Qae l1_0 a0_0).f2).length : Int)).bind fun t105 => (if t105 = true then (Qan.j0 k a2 ((l0_2.length : Int) != ((Qae l1_0 a0_0).f1)) a0_0 a0_1 l0_2 l0_3 a0_4 a0_5) else (Qan.j0 k a2 true a0_0 a0_1 l0_2 l0_3 a0_4 a0_5))) else (none)) else (none)) else (Qan.j0 k a2 true a0_0 a0_1 l0_2 l0_3 a0_4 a0_5)) = some r := H
  have A7 := Aside0.mk A70
  clear A70
  by_cases c8 : t103 = true
  · subst c8
    have H1 : (if 0 ≤ a0_0 then (if a0_0 < (l1_0.length : Int) then ((Qbm.f a0_1 0 (((Qae l1_0 a0_0).f2).length : Int)).bind fun t105 => (if t105 = true then (Qan.j0 k a2 ((l0_2.length : Int) != ((Qae l1_0 a0_0).f1)) a0_0 a0_1 l0_2 l0_3 a0_4 a0_5) else (Qan.j0 k a2 true a0_0 a0_1 l0_2 l0_3 a0_4 a0_5))) else (none)) else (none)) = some r := by rw [if_pos rfl] at H; exact H
    clear H
    have H := H1
    clear H1
    by_cases c9 : 0 ≤ a0_0
    · rw [if_pos c9] at H
      have c9b0 : decide (0 ≤ a0_0) = true := decide_eq_true c9
      clear c9
      (first | rw [c9b0] | (simp only [QbA, QbB]; rw [c9b0]) | skip)
      by_cases c10 : a0_0 < (l1_0.length : Int)
      · rw [if_pos c10] at H
        have c10b0 : decide (a0_0 < (l1_0.length : Int)) = true := decide_eq_true c10
        clear c10
        replace H := Option.bind_eq_some_iff.mp H
        obtain ⟨t105, A110, H⟩ := H
        replace H : (if t105 = true then (Qan.j0 k a2 ((l0_2.length : Int) != ((Qae l1_0 a0_0).f1)) a0_0 a0_1 l0_2 l0_3 a0_4 a0_5) else (Qan.j0 k a2 true a0_0 a0_1 l0_2 l0_3 a0_4 a0_5)) = some r := H
        have A11 := Aside0.mk A110
        clear A110
        by_cases c12 : t105 = true
        · subst c12
          have H1 : (Qan.j0 k a2 ((l0_2.length : Int) != ((Qae l1_0 a0_0).f1)) a0_0 a0_1 l0_2 l0_3 a0_4 a0_5) = some r := by rw [if_pos rfl] at H; exact H
          clear H
          have H := H1
          clear H1
          have H' := Aside0.mk H
          clear H
          try go_wp2
          have n0_ := Aside0.mk (Qa2 BK101.out)
          have n1_ := Aside0.mk (Qa2 BK102.out)
          have n2_ := Aside0.mk (Qa7 HB.out)
          clear BK101
          clear BK102
          clear HB
          have BK101 := n0_
          have BK102 := n1_
          have HB := n2_
          clear n0_ n1_ n2_
          have p104 : 0 ≤ (a0_0 : Int) := of_decide_eq_true (by first | (with_reducible assumption) | assumption)
          have q104 : a0_0 < (l1_0.length : Int) := of_decide_eq_true (by first | (with_reducible assumption) | assumption)
          obtain ⟨ad104, A104_2, c104_2, e104, hx104_0, hx104_1, hx104_2, hl104_2, hi104_2⟩ := Qbh HR1_0.out a0_0 p104 q104
          have hw104_2 := hx104_2
          have hw104_1 := hx104_1
          have hw104_0 := hx104_0
          cases e104
          replace hx104_0 := pc_ HB hx104_0
          replace hx104_1 := pc_ HB hx104_1
          replace hx104_2 := pc_ HB hx104_2
          have HR104_2 := Aside0.mk hi104_2
          have HC104_2 := Aside0.mk hl104_2
          clear hi104_2 hl104_2
          replace p104 := eq_true p104
          replace q104 := eq_true q104
          have p106 : 0 ≤ (a0_0 : Int) := of_decide_eq_true (by first | (with_reducible assumption) | assumption)
          have q106 : a0_0 < (l1_0.length : Int) := of_decide_eq_true (by first | (with_reducible assumption) | assumption)
          obtain ⟨ad106, A106_2, c106_2, e106, hx106_0, hx106_1, hx106_2, hl106_2, hi106_2⟩ := Qbh HR1_0.out a0_0 p106 q106
          have hw106_2 := hx106_2
          have hw106_1 := hx106_1
          have hw106_0 := hx106_0
          obtain rfl : ad104 = ad106 := (by injection e106)
          replace hx106_0 := pc_ HB hx106_0
          replace hx106_1 := pc_ HB hx106_1
          replace hx106_2 := pc_ HB hx106_2
          have HR106_2 := Aside0.mk hi106_2
          have HC106_2 := Aside0.mk hl106_2
          clear hi106_2 hl106_2
          replace p106 := eq_true p106
          replace q106 := eq_true q106
          have ea_ := Option.some.inj (hx104_2.symm.trans hx106_2)
          injection ea_ with ea_ en_ ec_
          subst ea_
          subst ec_
          clear en_
          refine QbP (n := 35) (S := fun w' => w'.cell? ⟨gb101, 0, none⟩ = some (.int .i64 a0_0) ∧ w'.cell? ⟨gb101, 1, none⟩ = some (.int .i64 a0_1) ∧ w'.cell? ⟨gb101, 2, none⟩ = some (.slice A0_2 l0_2.length c0_2) ∧ w'.cell? ⟨gb101, 3, none⟩ = some (.slice A0_3 l0_3.length c0_3) ∧ w'.cell? ⟨gb101, 4, none⟩ = some (.int .i64 a0_4) ∧ w'.cell? ⟨gb101, 5, none⟩ = some (.bool a0_5) ∧ w'.cell? ⟨gb102, 0, none⟩ = some (.slice (some ad104) l1_0.length c1_0) ∧ w'.cell? (ad104.add ((a0_0).toNat * 3)) = some (.int .i64 ((Qae l1_0 a0_0).f0)) ∧ w'.cell? ⟨(ad104.add ((a0_0).toNat * 3)).block, (ad104.add ((a0_0).toNat * 3)).off + 1, none⟩ = some (.int .i64 ((Qae l1_0 a0_0).f1)) ∧ w'.cell? ⟨(ad104.add ((a0_0).toNat * 3)).block, (ad104.add ((a0_0).toNat * 3)).off + 2, none⟩ = some (.slice A104_2 ((Qae l1_0 a0_0).f2).length c104_2) ∧ w'.cell? (ad104.add ((a0_0).toNat * 3)) = some (.int .i64 ((Qae l1_0 a0_0).f0)) ∧ w'.cell? ⟨(ad104.add ((a0_0).toNat * 3)).block, (ad104.add ((a0_0).toNat * 3)).off + 1, none⟩ = some (.int .i64 ((Qae l1_0 a0_0).f1)) ∧ w'.cell? ⟨(ad104.add ((a0_0).toNat * 3)).block, (ad104.add ((a0_0).toNat * 3)).off + 2, none⟩ = some (.slice A104_2 ((Qae l1_0 a0_0).f2).length c104_2)) (ds := []) #[false, false, false, false, false, false, false, false, false, false, false, false, false, false, false, false, false, false, false, false, false, false, false, false, false, false, false, false, false, false, false, false, false, false, false] (by kernel_rfl) rfl rfl ⟨(Qab BK101.out 0).trans rfl, (Qab BK101.out 1).trans rfl, (Qab BK101.out 2).trans rfl, (Qab BK101.out 3).trans rfl, (Qab BK101.out 4).trans rfl, (Qab BK101.out 5).trans rfl, (Qab BK102.out 0).trans rfl, (pc_ HB hw104_0), (pc_ HB hw104_1), (pc_ HB hw104_2), (pc_ HB hw106_0), (pc_ HB hw106_1), (pc_ HB hw106_2)⟩ (fun hHeld => ?_); refine Qbz Qan.tab1 Qan.bits1 (fun HT_ HW_ => ?_)
          generalize w6.drew = w13 at BK101 BK102 HB HR104_2 HR106_2 hx104_0 hx104_1 hx104_2 hx106_0 hx106_1 hx106_2 hHeld ⊢
          refine pu_ 0 (some 7) #[true, false, false, false, false, false, false, false, false, false, false, false, false, false, false, false, false, false, false, false, false, false, false, false, false, false, false, false, false, false, false, false, false, false, false] rfl rfl ?_
          refine pu_ 2 (some 9) #[true, false, true, false, false, false, false, false, false, false, false, false, false, false, false, false, false, false, false, false, false, false, false, false, false, false, false, false, false, false, false, false, false, false, false] rfl rfl ?_
          refine tk_ 1 (some 8) #[true, true, true, false, false, false, false, false, false, false, false, false, false, false, false, false, false, false, false, false, false, false, false, false, false, false, false, false, false, false, false, false, false, false, false] rfl rfl hHeld ?_
          refine tk_ 3 (some 10) #[true, true, true, true, false, false, false, false, false, false, false, false, false, false, false, false, false, false, false, false, false, false, false, false, false, false, false, false, false, false, false, false, false, false, false] rfl rfl hHeld ?_
          refine pu_ 4 (some 11) #[true, true, true, true, true, false, false, false, false, false, false, false, false, false, false, false, false, false, false, false, false, false, false, false, false, false, false, false, false, false, false, false, false, false, false] rfl rfl ?_
          refine pu_ 5 (some 12) #[true, true, true, true, true, true, false, false, false, false, false, false, false, false, false, false, false, false, false, false, false, false, false, false, false, false, false, false, false, false, false, false, false, false, false] rfl rfl ?_
          refine Qcx (i := 6) (N := some 13) #[true, true, true, true, true, true, true, false, false, false, false, false, false, false, false, false, false, false, false, false, false, false, false, false, false, false, false, false, false, false, false, false, false, false, false] rfl rfl (Qb2 HT_.out (by kernel_rfl)) (by decide) (fun K hK => ?_)
          refine QbL Try.func62 (by kernel_rfl) rfl #[.int .i64 a0_0, .int .i64 0, .int .i64 (wrap64 ((l1_0.length : Int) - 1))] (by rfl) rfl rfl (by (try simp only [List.map_toArray, List.map_cons, List.map_nil]); first | done | rfl | (simp only [List.length_drop, List.length_take]; rfl)) ?_
          with_reducible refine (Qbm.calls a0_0 0 (wrap64 ((l1_0.length : Int) - 1)) true _ A7.out).mono ?_
          rintro e w' ⟨rfl, ⟨nd, rfl⟩⟩
          refine ⟨_, rfl, ?_⟩
          refine hK.out _ _ ⟨(Qab BK101.out 0).trans rfl, (Qab BK101.out 1).trans rfl, (Qab BK101.out 2).trans rfl, (Qab BK101.out 3).trans rfl, (Qab BK101.out 4).trans rfl, (Qab BK101.out 5).trans rfl, (Qab BK102.out 0).trans rfl, (pc_ HB hw104_0), (pc_ HB hw104_1), (pc_ HB hw104_2), (pc_ HB hw106_0), (pc_ HB hw106_1), (pc_ HB hw106_2)⟩ (fun hHeld => ?_)
          clear hK K
          refine QbK (a' := ?_) ?_ ?_
          rotate_left
          · show Act.put _ (some 13) _ = _
            simp only [Act.put, List.setIfInBounds_toArray, List.set_cons_zero, List.set_cons_succ, QbA, QbB]
            rfl
          refine pu_ 7 (some 14) #[true, true, true, true, true, true, true, true, false, false, false, false, false, false, false, false, false, false, false, false, false, false, false, false, false, false, false, false, false, false, false, false, false, false, false] rfl rfl ?_
          refine pu_ 8 (some 15) #[true, true, true, true, true, true, true, true, true, false, false, false, false, false, false, false, false, false, false, false, false, false, false, false, false, false, false, false, false, false, false, false, false, false, false] rfl rfl ?_
          refine pu_ 9 (some 16) #[true, true, true, true, true, true, true, true, true, true, false, false, false, false, false, false, false, false, false, false, false, false, false, false, false, false, false, false, false, false, false, false, false, false, false] rfl rfl ?_
          refine pu_ 11 (some 18) #[true, true, true, true, true, true, true, true, true, true, false, true, false, false, false, false, false, false, false, false, false, false, false, false, false, false, false, false, false, false, false, false, false, false, false] rfl rfl ?_
          refine pu_ 13 (some 20) #[true, true, true, true, true, true, true, true, true, true, false, true, false, true, false, false, false, false, false, false, false, false, false, false, false, false, false, false, false, false, false, false, false, false, false] rfl rfl ?_
          refine tk_ 10 (some 17) #[true, true, true, true, true, true, true, true, true, true, true, true, false, true, false, false, false, false, false, false, false, false, false, false, false, false, false, false, false, false, false, false, false, false, false] rfl rfl hHeld ?_
          refine tk_ 12 (some 19) #[true, true, true, true, true, true, true, true, true, true, true, true, true, true, false, false, false, false, false, false, false, false, false, false, false, false, false, false, false, false, false, false, false, false, false] rfl rfl hHeld ?_
          refine tk_ 14 (some 21) #[true, true, true, true, true, true, true, true, true, true, true, true, true, true, true, false, false, false, false, false, false, false, false, false, false, false, false, false, false, false, false, false, false, false, false] rfl rfl hHeld ?_
          refine pu_ 15 (some 22) #[true, true, true, true, true, true, true, true, true, true, true, true, true, true, true, true, false, false, false, false, false, false, false, false, false, false, false, false, false, false, false, false, false, false, false] rfl rfl ?_
          refine pu_ 16 (some 23) #[true, true, true, true, true, true, true, true, true, true, true, true, true, true, true, true, true, false, false, false, false, false, false, false, false, false, false, false, false, false, false, false, false, false, false] rfl rfl ?_
          refine tk_ 17 (some 24) #[true, true, true, true, true, true, true, true, true, true, true, true, true, true, true, true, true, true, false, false, false, false, false, false, false, false, false, false, false, false, false, false, false, false, false] rfl rfl hHeld ?_
          refine pu_ 18 (some 25) #[true, true, true, true, true, true, true, true, true, true, true, true, true, true, true, true, true, true, true, false, false, false, false, false, false, false, false, false, false, false, false, false, false, false, false] rfl rfl ?_
          refine Qcx (i := 19) (N := some 26) #[true, true, true, true, true, true, true, true, true, true, true, true, true, true, true, true, true, true, true, true, false, false, false, false, false, false, false, false, false, false, false, false, false, false, false] rfl rfl (Qb2 HT_.out (by kernel_rfl)) (by decide) (fun K hK => ?_)
          refine QbL Try.func62 (by kernel_rfl) rfl #[.int .i64 a0_1, .int .i64 0, .int .i64 (((Qae l1_0 a0_0).f2).length : Int)] (by rfl) rfl rfl (by (try simp only [List.map_toArray, List.map_cons, List.map_nil]); first | done | rfl | (simp only [List.length_drop, List.length_take]; rfl)) ?_
          with_reducible refine (Qbm.calls a0_1 0 (((Qae l1_0 a0_0).f2).length : Int) true _ A11.out).mono ?_
          rintro e w' ⟨rfl, ⟨nd, rfl⟩⟩
          refine ⟨_, rfl, ?_⟩
          refine hK.out _ _ ⟨(Qab BK101.out 0).trans rfl, (Qab BK101.out 1).trans rfl, (Qab BK101.out 2).trans rfl, (Qab BK101.out 3).trans rfl, (Qab BK101.out 4).trans rfl, (Qab BK101.out 5).trans rfl, (Qab BK102.out 0).trans rfl, (pc_ HB hw104_0), (pc_ HB hw104_1), (pc_ HB hw104_2), (pc_ HB hw106_0), (pc_ HB hw106_1), (pc_ HB hw106_2)⟩ (fun hHeld => ?_)
          clear hK K
          refine QbK (a' := ?_) ?_ ?_
          rotate_left
          · show Act.put _ (some 26) _ = _
            simp only [Act.put, List.setIfInBounds_toArray, List.set_cons_zero, List.set_cons_succ, QbA, QbB]
            rfl
          refine pu_ 20 (some 27) #[true, true, true, true, true, true, true, true, true, true, true, true, true, true, true, true, true, true, true, true, true, false, false, false, false, false, false, false, false, false, false, false, false, false, false] rfl rfl ?_
          refine pu_ 21 (some 28) #[true, true, true, true, true, true, true, true, true, true, true, true, true, true, true, true, true, true, true, true, true, true, false, false, false, false, false, false, false, false, false, false, false, false, false] rfl rfl ?_
          refine pu_ 22 (some 29) #[true, true, true, true, true, true, true, true, true, true, true, true, true, true, true, true, true, true, true, true, true, true, true, false, false, false, false, false, false, false, false, false, false, false, false] rfl rfl ?_
          refine pu_ 23 (some 30) #[true, true, true, true, true, true, true, true, true, true, true, true, true, true, true, true, true, true, true, true, true, true, true, true, false, false, false, false, false, false, false, false, false, false, false] rfl rfl ?_
          refine pu_ 26 (some 33) #[true, true, true, true, true, true, true, true, true, true, true, true, true, true, true, true, true, true, true, true, true, true, true, true, false, false, true, false, false, false, false, false, false, false, false] rfl rfl ?_
          refine pu_ 28 (some 35) #[true, true, true, true, true, true, true, true, true, true, true, true, true, true, true, true, true, true, true, true, true, true, true, true, false, false, true, false, true, false, false, false, false, false, false] rfl rfl ?_
          refine tk_ 24 (some 31) #[true, true, true, true, true, true, true, true, true, true, true, true, true, true, true, true, true, true, true, true, true, true, true, true, true, false, true, false, true, false, false, false, false, false, false] rfl rfl hHeld ?_
          refine pu_ 25 (some 32) #[true, true, true, true, true, true, true, true, true, true, true, true, true, true, true, true, true, true, true, true, true, true, true, true, true, true, true, false, true, false, false, false, false, false, false] rfl rfl ?_
          refine tk_ 27 (some 34) #[true, true, true, true, true, true, true, true, true, true, true, true, true, true, true, true, true, true, true, true, true, true, true, true, true, true, true, true, true, false, false, false, false, false, false] rfl rfl hHeld ?_
          refine tk_ 29 (some 36) #[true, true, true, true, true, true, true, true, true, true, true, true, true, true, true, true, true, true, true, true, true, true, true, true, true, true, true, true, true, true, false, false, false, false, false] rfl rfl hHeld ?_
          refine pu_ 30 (some 37) #[true, true, true, true, true, true, true, true, true, true, true, true, true, true, true, true, true, true, true, true, true, true, true, true, true, true, true, true, true, true, true, false, false, false, false] rfl rfl ?_
          refine pu_ 31 (some 38) #[true, true, true, true, true, true, true, true, true, true, true, true, true, true, true, true, true, true, true, true, true, true, true, true, true, true, true, true, true, true, true, true, false, false, false] rfl rfl ?_
          refine tk_ 32 (some 39) #[true, true, true, true, true, true, true, true, true, true, true, true, true, true, true, true, true, true, true, true, true, true, true, true, true, true, true, true, true, true, true, true, true, false, false] rfl rfl hHeld ?_
          refine pu_ 33 (some 40) #[true, true, true, true, true, true, true, true, true, true, true, true, true, true, true, true, true, true, true, true, true, true, true, true, true, true, true, true, true, true, true, true, true, true, false] rfl rfl ?_
          refine pu_ 34 (some 41) #[true, true, true, true, true, true, true, true, true, true, true, true, true, true, true, true, true, true, true, true, true, true, true, true, true, true, true, true, true, true, true, true, true, true, true] rfl rfl ?_
          refine Qcc (QbS HT_.out (by kernel_rfl)) ?_
          try go_wp2
          go_meet
          case rel => exact ⟨_, (((l0_2.length : Int) != ((Qae l1_0 a0_0).f1))), (by first | rfl | (simp; done) | (simp [*]; done)), H', ⟨by first | omega | exact Nat.le_refl _⟩, ⟨by (refine kb_ ?_); exact BK101.out⟩, ⟨by (refine kb_ ?_); exact BK102.out⟩, ⟨bw_⟩⟩
        · replace c12 := Bool.eq_false_iff.mpr c12
          subst c12
          have H1 : (Qan.j0 k a2 true a0_0 a0_1 l0_2 l0_3 a0_4 a0_5) = some r := by rw [if_neg (show ¬ (false = true) by decide)] at H; exact H
          clear H
          have H := H1
          clear H1
          have H' := Aside0.mk H
          clear H
          try go_wp2
          have n0_ := Aside0.mk (Qa2 BK101.out)
          have n1_ := Aside0.mk (Qa2 BK102.out)
          have n2_ := Aside0.mk (Qa7 HB.out)
          clear BK101
          clear BK102
          clear HB
          have BK101 := n0_
          have BK102 := n1_
          have HB := n2_
          clear n0_ n1_ n2_
          have p104 : 0 ≤ (a0_0 : Int) := of_decide_eq_true (by first | (with_reducible assumption) | assumption)
          have q104 : a0_0 < (l1_0.length : Int) := of_decide_eq_true (by first | (with_reducible assumption) | assumption)
          obtain ⟨ad104, A104_2, c104_2, e104, hx104_0, hx104_1, hx104_2, hl104_2, hi104_2⟩ := Qbh HR1_0.out a0_0 p104 q104
          have hw104_2 := hx104_2
          have hw104_1 := hx104_1
          have hw104_0 := hx104_0
          cases e104
          replace hx104_0 := pc_ HB hx104_0
          replace hx104_1 := pc_ HB hx104_1
          replace hx104_2 := pc_ HB hx104_2
          have HR104_2 := Aside0.mk hi104_2
          have HC104_2 := Aside0.mk hl104_2
          clear hi104_2 hl104_2
          replace p104 := eq_true p104
          replace q104 := eq_true q104
          refine QbP (n := 35) (S := fun w' => w'.cell? ⟨gb101, 0, none⟩ = some (.int .i64 a0_0) ∧ w'.cell? ⟨gb101, 1, none⟩ = some (.int .i64 a0_1) ∧ w'.cell? ⟨gb101, 2, none⟩ = some (.slice A0_2 l0_2.length c0_2) ∧ w'.cell? ⟨gb101, 3, none⟩ = some (.slice A0_3 l0_3.length c0_3) ∧ w'.cell? ⟨gb101, 4, none⟩ = some (.int .i64 a0_4) ∧ w'.cell? ⟨gb101, 5, none⟩ = some (.bool a0_5) ∧ w'.cell? ⟨gb102, 0, none⟩ = some (.slice (some ad104) l1_0.length c1_0) ∧ w'.cell? (ad104.add ((a0_0).toNat * 3)) = some (.int .i64 ((Qae l1_0 a0_0).f0)) ∧ w'.cell? ⟨(ad104.add ((a0_0).toNat * 3)).block, (ad104.add ((a0_0).toNat * 3)).off + 1, none⟩ = some (.int .i64 ((Qae l1_0 a0_0).f1)) ∧ w'.cell? ⟨(ad104.add ((a0_0).toNat * 3)).block, (ad104.add ((a0_0).toNat * 3)).off + 2, none⟩ = some (.slice A104_2 ((Qae l1_0 a0_0).f2).length c104_2)) (ds := []) #[false, false, false, false, false, false, false, false, false, false, false, false, false, false, false, false, false, false, false, false, false, false, false, false, false, false, false, false, false, false, false, false, false, false, false] (by kernel_rfl) rfl rfl ⟨(Qab BK101.out 0).trans rfl, (Qab BK101.out 1).trans rfl, (Qab BK101.out 2).trans rfl, (Qab BK101.out 3).trans rfl, (Qab BK101.out 4).trans rfl, (Qab BK101.out 5).trans rfl, (Qab BK102.out 0).trans rfl, (pc_ HB hw104_0), (pc_ HB hw104_1), (pc_ HB hw104_2)⟩ (fun hHeld => ?_); refine Qbz Qan.tab1 Qan.bits1 (fun HT_ HW_ => ?_)
          generalize w6.drew = w14 at BK101 BK102 HB HR104_2 hx104_0 hx104_1 hx104_2 hHeld ⊢
          refine pu_ 0 (some 7) #[true, false, false, false, false, false, false, false, false, false, false, false, false, false, false, false, false, false, false, false, false, false, false, false, false, false, false, false, false, false, false, false, false, false, false] rfl rfl ?_
          refine pu_ 2 (some 9) #[true, false, true, false, false, false, false, false, false, false, false, false, false, false, false, false, false, false, false, false, false, false, false, false, false, false, false, false, false, false, false, false, false, false, false] rfl rfl ?_
          refine tk_ 1 (some 8) #[true, true, true, false, false, false, false, false, false, false, false, false, false, false, false, false, false, false, false, false, false, false, false, false, false, false, false, false, false, false, false, false, false, false, false] rfl rfl hHeld ?_
          refine tk_ 3 (some 10) #[true, true, true, true, false, false, false, false, false, false, false, false, false, false, false, false, false, false, false, false, false, false, false, false, false, false, false, false, false, false, false, false, false, false, false] rfl rfl hHeld ?_
          refine pu_ 4 (some 11) #[true, true, true, true, true, false, false, false, false, false, false, false, false, false, false, false, false, false, false, false, false, false, false, false, false, false, false, false, false, false, false, false, false, false, false] rfl rfl ?_
          refine pu_ 5 (some 12) #[true, true, true, true, true, true, false, false, false, false, false, false, false, false, false, false, false, false, false, false, false, false, false, false, false, false, false, false, false, false, false, false, false, false, false] rfl rfl ?_
          refine Qcx (i := 6) (N := some 13) #[true, true, true, true, true, true, true, false, false, false, false, false, false, false, false, false, false, false, false, false, false, false, false, false, false, false, false, false, false, false, false, false, false, false, false] rfl rfl (Qb2 HT_.out (by kernel_rfl)) (by decide) (fun K hK => ?_)
          refine QbL Try.func62 (by kernel_rfl) rfl #[.int .i64 a0_0, .int .i64 0, .int .i64 (wrap64 ((l1_0.length : Int) - 1))] (by rfl) rfl rfl (by (try simp only [List.map_toArray, List.map_cons, List.map_nil]); first | done | rfl | (simp only [List.length_drop, List.length_take]; rfl)) ?_
          with_reducible refine (Qbm.calls a0_0 0 (wrap64 ((l1_0.length : Int) - 1)) true _ A7.out).mono ?_
          rintro e w' ⟨rfl, ⟨nd, rfl⟩⟩
          refine ⟨_, rfl, ?_⟩
          refine hK.out _ _ ⟨(Qab BK101.out 0).trans rfl, (Qab BK101.out 1).trans rfl, (Qab BK101.out 2).trans rfl, (Qab BK101.out 3).trans rfl, (Qab BK101.out 4).trans rfl, (Qab BK101.out 5).trans rfl, (Qab BK102.out 0).trans rfl, (pc_ HB hw104_0), (pc_ HB hw104_1), (pc_ HB hw104_2)⟩ (fun hHeld => ?_)
          clear hK K
          refine QbK (a' := ?_) ?_ ?_
          rotate_left
          · show Act.put _ (some 13) _ = _
            simp only [Act.put, List.setIfInBounds_toArray, List.set_cons_zero, List.set_cons_succ, QbA, QbB]
            rfl
          refine pu_ 7 (some 14) #[true, true, true, true, true, true, true, true, false, false, false, false, false, false, false, false, false, false, false, false, false, false, false, false, false, false, false, false, false, false, false, false, false, false, false] rfl rfl ?_
          refine pu_ 8 (some 15) #[true, true, true, true, true, true, true, true, true, false, false, false, false, false, false, false, false, false, false, false, false, false, false, false, false, false, false, false, false, false, false, false, false, false, false] rfl rfl ?_
          refine pu_ 9 (some 16) #[true, true, true, true, true, true, true, true, true, true, false, false, false, false, false, false, false, false, false, false, false, false, false, false, false, false, false, false, false, false, false, false, false, false, false] rfl rfl ?_
          refine pu_ 11 (some 18) #[true, true, true, true, true, true, true, true, true, true, false, true, false, false, false, false, false, false, false, false, false, false, false, false, false, false, false, false, false, false, false, false, false, false, false] rfl rfl ?_
          refine pu_ 13 (some 20) #[true, true, true, true, true, true, true, true, true, true, false, true, false, true, false, false, false, false, false, false, false, false, false, false, false, false, false, false, false, false, false, false, false, false, false] rfl rfl ?_
          refine tk_ 10 (some 17) #[true, true, true, true, true, true, true, true, true, true, true, true, false, true, false, false, false, false, false, false, false, false, false, false, false, false, false, false, false, false, false, false, false, false, false] rfl rfl hHeld ?_
          refine tk_ 12 (some 19) #[true, true, true, true, true, true, true, true, true, true, true, true, true, true, false, false, false, false, false, false, false, false, false, false, false, false, false, false, false, false, false, false, false, false, false] rfl rfl hHeld ?_
          refine tk_ 14 (some 21) #[true, true, true, true, true, true, true, true, true, true, true, true, true, true, true, false, false, false, false, false, false, false, false, false, false, false, false, false, false, false, false, false, false, false, false] rfl rfl hHeld ?_
          refine pu_ 15 (some 22) #[true, true, true, true, true, true, true, true, true, true, true, true, true, true, true, true, false, false, false, false, false, false, false, false, false, false, false, false, false, false, false, false, false, false, false] rfl rfl ?_
          refine pu_ 16 (some 23) #[true, true, true, true, true, true, true, true, true, true, true, true, true, true, true, true, true, false, false, false, false, false, false, false, false, false, false, false, false, false, false, false, false, false, false] rfl rfl ?_
          refine tk_ 17 (some 24) #[true, true, true, true, true, true, true, true, true, true, true, true, true, true, true, true, true, true, false, false, false, false, false, false, false, false, false, false, false, false, false, false, false, false, false] rfl rfl hHeld ?_
          refine pu_ 18 (some 25) #[true, true, true, true, true, true, true, true, true, true, true, true, true, true, true, true, true, true, true, false, false, false, false, false, false, false, false, false, false, false, false, false, false, false, false] rfl rfl ?_
          refine Qcx (i := 19) (N := some 26) #[true, true, true, true, true, true, true, true, true, true, true, true, true, true, true, true, true, true, true, true, false, false, false, false, false, false, false, false, false, false, false, false, false, false, false] rfl rfl (Qb2 HT_.out (by kernel_rfl)) (by decide) (fun K hK => ?_)
          refine QbL Try.func62 (by kernel_rfl) rfl #[.int .i64 a0_1, .int .i64 0, .int .i64 (((Qae l1_0 a0_0).f2).length : Int)] (by rfl) rfl rfl (by (try simp only [List.map_toArray, List.map_cons, List.map_nil]); first | done | rfl | (simp only [List.length_drop, List.length_take]; rfl)) ?_
          with_reducible refine (Qbm.calls a0_1 0 (((Qae l1_0 a0_0).f2).length : Int) false _ A11.out).mono ?_
          rintro e w' ⟨rfl, ⟨nd, rfl⟩⟩
          refine ⟨_, rfl, ?_⟩
          refine hK.out _ _ ⟨(Qab BK101.out 0).trans rfl, (Qab BK101.out 1).trans rfl, (Qab BK101.out 2).trans rfl, (Qab BK101.out 3).trans rfl, (Qab BK101.out 4).trans rfl, (Qab BK101.out 5).trans rfl, (Qab BK102.out 0).trans rfl, (pc_ HB hw104_0), (pc_ HB hw104_1), (pc_ HB hw104_2)⟩ (fun hHeld => ?_)
          clear hK K
          refine QbK (a' := ?_) ?_ ?_
          rotate_left
          · show Act.put _ (some 26) _ = _
            simp only [Act.put, List.setIfInBounds_toArray, List.set_cons_zero, List.set_cons_succ, QbA, QbB]
            rfl
          refine pu_ 20 (some 27) #[true, true, true, true, true, true, true, true, true, true, true, true, true, true, true, true, true, true, true, true, true, false, false, false, false, false, false, false, false, false, false, false, false, false, false] rfl rfl ?_
          refine pu_ 21 (some 28) #[true, true, true, true, true, true, true, true, true, true, true, true, true, true, true, true, true, true, true, true, true, true, false, false, false, false, false, false, false, false, false, false, false, false, false] rfl rfl ?_
          refine pu_ 22 (some 29) #[true, true, true, true, true, true, true, true, true, true, true, true, true, true, true, true, true, true, true, true, true, true, true, false, false, false, false, false, false, false, false, false, false, false, false] rfl rfl ?_
          refine pn_ 23 (some 30) #[true, true, true, true, true, true, true, true, true, true, true, true, true, true, true, true, true, true, true, true, true, true, true, true, false, false, false, false, false, false, false, false, false, false, false] rfl rfl ?_
          refine pn_ 24 (some 31) #[true, true, true, true, true, true, true, true, true, true, true, true, true, true, true, true, true, true, true, true, true, true, true, true, true, false, false, false, false, false, false, false, false, false, false] rfl rfl ?_
          refine pn_ 25 (some 32) #[true, true, true, true, true, true, true, true, true, true, true, true, true, true, true, true, true, true, true, true, true, true, true, true, true, true, false, false, false, false, false, false, false, false, false] rfl rfl ?_
          refine pn_ 26 (some 33) #[true, true, true, true, true, true, true, true, true, true, true, true, true, true, true, true, true, true, true, true, true, true, true, true, true, true, true, false, false, false, false, false, false, false, false] rfl rfl ?_
          refine pn_ 27 (some 34) #[true, true, true, true, true, true, true, true, true, true, true, true, true, true, true, true, true, true, true, true, true, true, true, true, true, true, true, true, false, false, false, false, false, false, false] rfl rfl ?_
          refine pn_ 28 (some 35) #[true, true, true, true, true, true, true, true, true, true, true, true, true, true, true, true, true, true, true, true, true, true, true, true, true, true, true, true, true, false, false, false, false, false, false] rfl rfl ?_
          refine pn_ 29 (some 36) #[true, true, true, true, true, true, true, true, true, true, true, true, true, true, true, true, true, true, true, true, true, true, true, true, true, true, true, true, true, true, false, false, false, false, false] rfl rfl ?_
          refine pn_ 30 (some 37) #[true, true, true, true, true, true, true, true, true, true, true, true, true, true, true, true, true, true, true, true, true, true, true, true, true, true, true, true, true, true, true, false, false, false, false] rfl rfl ?_
          refine pn_ 31 (some 38) #[true, true, true, true, true, true, true, true, true, true, true, true, true, true, true, true, true, true, true, true, true, true, true, true, true, true, true, true, true, true, true, true, false, false, false] rfl rfl ?_
          refine pn_ 32 (some 39) #[true, true, true, true, true, true, true, true, true, true, true, true, true, true, true, true, true, true, true, true, true, true, true, true, true, true, true, true, true, true, true, true, true, false, false] rfl rfl ?_
          refine pn_ 33 (some 40) #[true, true, true, true, true, true, true, true, true, true, true, true, true, true, true, true, true, true, true, true, true, true, true, true, true, true, true, true, true, true, true, true, true, true, false] rfl rfl ?_
          refine pu_ 34 (some 41) #[true, true, true, true, true, true, true, true, true, true, true, true, true, true, true, true, true, true, true, true, true, true, true, true, true, true, true, true, true, true, true, true, true, true, true] rfl rfl ?_
          refine Qcc (QbS HT_.out (by kernel_rfl)) ?_
          try go_wp2
          go_meet
          case rel => exact ⟨_, (true), (by first | rfl | (simp; done) | (simp [*]; done)), H', ⟨by first | omega | exact Nat.le_refl _⟩, ⟨by (refine kb_ ?_); exact BK101.out⟩, ⟨by (refine kb_ ?_); exact BK102.out⟩, ⟨bw_⟩⟩
      · rw [if_neg c10] at H
        exact absurd H (by simp)
    · rw [if_neg c9] at H
      exact absurd H (by simp)
  · replace c8 := Bool.eq_false_iff.mpr c8
    subst c8
    have H1 : (Qan.j0 k a2 true a0_0 a0_1 l0_2 l0_3 a0_4 a0_5) = some r := by rw [if_neg (show ¬ (false = true) by decide)] at H; exact H
    clear H
    have H := H1
    clear H1
    have H' := Aside0.mk H
    clear H
    try go_wp2
    have n0_ := Aside0.mk (Qa2 BK101.out)
    have n1_ := Aside0.mk (Qa2 BK102.out)
    have n2_ := Aside0.mk (Qa7 HB.out)
    clear BK101
    clear BK102
    clear HB
    have BK101 := n0_
    have BK102 := n1_
    have HB := n2_
    clear n0_ n1_ n2_
    refine QbP (n := 35) (S := fun w' => w'.cell? ⟨gb101, 0, none⟩ = some (.int .i64 a0_0) ∧ w'.cell? ⟨gb101, 1, none⟩ = some (.int .i64 a0_1) ∧ w'.cell? ⟨gb101, 2, none⟩ = some (.slice A0_2 l0_2.length c0_2) ∧ w'.cell? ⟨gb101, 3, none⟩ = some (.slice A0_3 l0_3.length c0_3) ∧ w'.cell? ⟨gb101, 4, none⟩ = some (.int .i64 a0_4) ∧ w'.cell? ⟨gb101, 5, none⟩ = some (.bool a0_5) ∧ w'.cell? ⟨gb102, 0, none⟩ = some (.slice A1_0 l1_0.length c1_0)) (ds := []) #[false, false, false, false, false, false, false, false, false, false, false, false, false, false, false, false, false, false, false, false, false, false, false, false, false, false, false, false, false, false, false, false, false, false, false] (by kernel_rfl) rfl rfl ⟨(Qab BK101.out 0).trans rfl, (Qab BK101.out 1).trans rfl, (Qab BK101.out 2).trans rfl, (Qab BK101.out 3).trans rfl, (Qab BK101.out 4).trans rfl, (Qab BK101.out 5).trans rfl, (Qab BK102.out 0).trans rfl⟩ (fun hHeld => ?_); refine Qbz Qan.tab1 Qan.bits1 (fun HT_ HW_ => ?_)
    generalize w6.drew = w15 at BK101 BK102 HB hHeld ⊢
    refine pu_ 0 (some 7) #[true, false, false, false, false, false, false, false, false, false, false, false, false, false, false, false, false, false, false, false, false, false, false, false, false, false, false, false, false, false, false, false, false, false, false] rfl rfl ?_
    refine pu_ 2 (some 9) #[true, false, true, false, false, false, false, false, false, false, false, false, false, false, false, false, false, false, false, false, false, false, false, false, false, false, false, false, false, false, false, false, false, false, false] rfl rfl ?_
    refine tk_ 1 (some 8) #[true, true, true, false, false, false, false, false, false, false, false, false, false, false, false, false, false, false, false, false, false, false, false, false, false, false, false, false, false, false, false, false, false, false, false] rfl rfl hHeld ?_
    refine tk_ 3 (some 10) #[true, true, true, true, false, false, false, false, false, false, false, false, false, false, false, false, false, false, false, false, false, false, false, false, false, false, false, false, false, false, false, false, false, false, false] rfl rfl hHeld ?_
    refine pu_ 4 (some 11) #[true, true, true, true, true, false, false, false, false, false, false, false, false, false, false, false, false, false, false, false, false, false, false, false, false, false, false, false, false, false, false, false, false, false, false] rfl rfl ?_
    refine pu_ 5 (some 12) #[true, true, true, true, true, true, false, false, false, false, false, false, false, false, false, false, false, false, false, false, false, false, false, false, false, false, false, false, false, false, false, false, false, false, false] rfl rfl ?_
    refine Qcx (i := 6) (N := some 13) #[true, true, true, true, true, true, true, false, false, false, false, false, false, false, false, false, false, false, false, false, false, false, false, false, false, false, false, false, false, false, false, false, false, false, false] rfl rfl (Qb2 HT_.out (by kernel_rfl)) (by decide) (fun K hK => ?_)
    refine QbL Try.func62 (by kernel_rfl) rfl #[.int .i64 a0_0, .int .i64 0, .int .i64 (wrap64 ((l1_0.length : Int) - 1))] (by rfl) rfl rfl (by (try simp only [List.map_toArray, List.map_cons, List.map_nil]); first | done | rfl | (simp only [List.length_drop, List.length_take]; rfl)) ?_
    with_reducible refine (Qbm.calls a0_0 0 (wrap64 ((l1_0.length : Int) - 1)) false _ A7.out).mono ?_
    rintro e w' ⟨rfl, ⟨nd, rfl⟩⟩
    refine ⟨_, rfl, ?_⟩
    refine hK.out _ _ ⟨(Qab BK101.out 0).trans rfl, (Qab BK101.out 1).trans rfl, (Qab BK101.out 2).trans rfl, (Qab BK101.out 3).trans rfl, (Qab BK101.out 4).trans rfl, (Qab BK101.out 5).trans rfl, (Qab BK102.out 0).trans rfl⟩ (fun hHeld => ?_)
    clear hK K
    refine QbK (a' := ?_) ?_ ?_
    rotate_left
    · show Act.put _ (some 13) _ = _
      simp only [Act.put, List.setIfInBounds_toArray, List.set_cons_zero, List.set_cons_succ, QbA, QbB]
      rfl
    refine pu_ 7 (some 14) #[true, true, true, true, true, true, true, true, false, false, false, false, false, false, false, false, false, false, false, false, false, false, false, false, false, false, false, false, false, false, false, false, false, false, false] rfl rfl ?_
    refine pu_ 8 (some 15) #[true, true, true, true, true, true, true, true, true, false, false, false, false, false, false, false, false, false, false, false, false, false, false, false, false, false, false, false, false, false, false, false, false, false, false] rfl rfl ?_
    refine pn_ 9 (some 16) #[true, true, true, true, true, true, true, true, true, true, false, false, false, false, false, false, false, false, false, false, false, false, false, false, false, false, false, false, false, false, false, false, false, false, false] rfl rfl ?_
    refine pn_ 10 (some 17) #[true, true, true, true, true, true, true, true, true, true, true, false, false, false, false, false, false, false, false, false, false, false, false, false, false, false, false, false, false, false, false, false, false, false, false] rfl rfl ?_
    refine pn_ 11 (some 18) #[true, true, true, true, true, true, true, true, true, true, true, true, false, false, false, false, false, false, false, false, false, false, false, false, false, false, false, false, false, false, false, false, false, false, false] rfl rfl ?_
    refine pn_ 12 (some 19) #[true, true, true, true, true, true, true, true, true, true, true, true, true, false, false, false, false, false, false, false, false, false, false, false, false, false, false, false, false, false, false, false, false, false, false] rfl rfl ?_
    refine pn_ 13 (some 20) #[true, true, true, true, true, true, true, true, true, true, true, true, true, true, false, false, false, false, false, false, false, false, false, false, false, false, false, false, false, false, false, false, false, false, false] rfl rfl ?_
    refine pn_ 14 (some 21) #[true, true, true, true, true, true, true, true, true, true, true, true, true, true, true, false, false, false, false, false, false, false, false, false, false, false, false, false, false, false, false, false, false, false, false] rfl rfl ?_
    refine pn_ 15 (some 22) #[true, true, true, true, true, true, true, true, true, true, true, true, true, true, true, true, false, false, false, false, false, false, false, false, false, false, false, false, false, false, false, false, false, false, false] rfl rfl ?_
    refine pn_ 16 (some 23) #[true, true, true, true, true, true, true, true, true, true, true, true, true, true, true, true, true, false, false, false, false, false, false, false, false, false, false, false, false, false, false, false, false, false, false] rfl rfl ?_
    refine pn_ 17 (some 24) #[true, true, true, true, true, true, true, true, true, true, true, true, true, true, true, true, true, true, false, false, false, false, false, false, false, false, false, false, false, false, false, false, false, false, false] rfl rfl ?_
    refine pn_ 18 (some 25) #[true, true, true, true, true, true, true, true, true, true, true, true, true, true, true, true, true, true, true, false, false, false, false, false, false, false, false, false, false, false, false, false, false, false, false] rfl rfl ?_
    refine pn_ 19 (some 26) #[true, true, true, true, true, true, true, true, true, true, true, true, true, true, true, true, true, true, true, true, false, false, false, false, false, false, false, false, false, false, false, false, false, false, false] rfl rfl ?_
    refine pn_ 20 (some 27) #[true, true, true, true, true, true, true, true, true, true, true, true, true, true, true, true, true, true, true, true, true, false, false, false, false, false, false, false, false, false, false, false, false, false, false] rfl rfl ?_
    refine pu_ 21 (some 28) #[true, true, true, true, true, true, true, true, true, true, true, true, true, true, true, true, true, true, true, true, true, true, false, false, false, false, false, false, false, false, false, false, false, false, false] rfl rfl ?_
    refine pu_ 22 (some 29) #[true, true, true, true, true, true, true, true, true, true, true, true, true, true, true, true, true, true, true, true, true, true, true, false, false, false, false, false, false, false, false, false, false, false, false] rfl rfl ?_
    refine pn_ 23 (some 30) #[true, true, true, true, true, true, true, true, true, true, true, true, true, true, true, true, true, true, true, true, true, true, true, true, false, false, false, false, false, false, false, false, false, false, false] rfl rfl ?_
    refine pn_ 24 (some 31) #[true, true, true, true, true, true, true, true, true, true, true, true, true, true, true, true, true, true, true, true, true, true, true, true, true, false, false, false, false, false, false, false, false, false, false] rfl rfl ?_
    refine pn_ 25 (some 32) #[true, true, true, true, true, true, true, true, true, true, true, true, true, true, true, true, true, true, true, true, true, true, true, true, true, true, false, false, false, false, false, false, false, false, false] rfl rfl ?_
    refine pn_ 26 (some 33) #[true, true, true, true, true, true, true, true, true, true, true, true, true, true, true, true, true, true, true, true, true, true, true, true, true, true, true, false, false, false, false, false, false, false, false] rfl rfl ?_
    refine pn_ 27 (some 34) #[true, true, true, true, true, true, true, true, true, true, true, true, true, true, true, true, true, true, true, true, true, true, true, true, true, true, true, true, false, false, false, false, false, false, false] rfl rfl ?_
    refine pn_ 28 (some 35) #[true, true, true, true, true, true, true, true, true, true, true, true, true, true, true, true, true, true, true, true, true, true, true, true, true, true, true, true, true, false, false, false, false, false, false] rfl rfl ?_
    refine pn_ 29 (some 36) #[true, true, true, true, true, true, true, true, true, true, true, true, true, true, true, true, true, true, true, true, true, true, true, true, true, true, true, true, true, true, false, false, false, false, false] rfl rfl ?_
    refine pn_ 30 (some 37) #[true, true, true, true, true, true, true, true, true, true, true, true, true, true, true, true, true, true, true, true, true, true, true, true, true, true, true, true, true, true, true, false, false, false, false] rfl rfl ?_
    refine pn_ 31 (some 38) #[true, true, true, true, true, true, true, true, true, true, true, true, true, true, true, true, true, true, true, true, true, true, true, true, true, true, true, true, true, true, true, true, false, false, false] rfl rfl ?_
    refine pn_ 32 (some 39) #[true, true, true, true, true, true, true, true, true, true, true, true, true, true, true, true, true, true, true, true, true, true, true, true, true, true, true, true, true, true, true, true, true, false, false] rfl rfl ?_
    refine pn_ 33 (some 40) #[true, true, true, true, true, true, true, true, true, true, true, true, true, true, true, true, true, true, true, true, true, true, true, true, true, true, true, true, true, true, true, true, true, true, false] rfl rfl ?_
    refine pu_ 34 (some 41) #[true, true, true, true, true, true, true, true, true, true, true, true, true, true, true, true, true, true, true, true, true, true, true, true, true, true, true, true, true, true, true, true, true, true, true] rfl rfl ?_
    refine Qcc (QbS HT_.out (by kernel_rfl)) ?_
    try go_wp2
    go_meet
    case rel => exact ⟨_, (true), (by first | rfl | (simp; done) | (simp [*]; done)), H', ⟨by first | omega | exact Nat.le_refl _⟩, ⟨by (refine kb_ ?_); exact BK101.out⟩, ⟨by (refine kb_ ?_); exact BK102.out⟩, ⟨bw_⟩⟩
 case rest =>
  clear HC4
  try clear c1
  try clear p1
  try clear q1
  try clear hx1
  try clear p2
  try clear c6
  try clear p6
  try clear c8
  try clear c9
  try clear c10
  try clear p10
  try clear q10
  try clear hx10
  try clear c12
  try clear hx104_0
  try clear hx104_1
  try clear hx104_2
  try clear p104
  try clear q104
  obtain ⟨kq, x41_3, rfl, HA, HJ3, BK101, BK102, HB⟩ := hcut
  cases kq with
  | zero => exact absurd HA.out (by simp [Qan.j0])
  | succ kj3 =>
    have H := HA.out
    clear HA
    simp only [Qan.j0] at H
    by_cases c16 : x41_3 = true
    · subst c16
      have H1 : (some false) = some r := by rw [if_pos rfl] at H; exact H
      clear H
      have H := H1
      clear H1
      obtain rfl := Option.some.inj H
      go_wp2
      go_ret
      exact ⟨by first | rfl | (simp [Qaf, Qag] <;> rfl) | (simp [*, Qaf, Qag] <;> rfl), bw_⟩
    · replace c16 := Bool.eq_false_iff.mpr c16
      subst c16
      have H1 : (if (l0_3.length : Int) > 6 then (some false) else ((Qbn.f l0_2 a2).bind fun t107 => (if t107 = true then ((Qbn.f l0_3 a2).bind fun t108 => (if t108 = true then ((Qbm.f a0_4 (-1) (wrap64 (a2 - 1))).bind fun t109 => (if t109 = true then (if a0_5 = true then (if (l0_3.length : Int) = 0 then (some (a0_4 == (-1))) else (some false)) else (some true)) else (some false))) else (some false))) else (some false)))) = some r := by rw [if_neg (show ¬ (false = true) by decide)] at H; exact H
      clear H
      have H := H1
      clear H1
      by_cases c17 : (l0_3.length : Int) > 6
      · rw [if_pos c17] at H
        have c17b0 : decide (6 < (l0_3.length : Int)) = true := decide_eq_true c17
        have c17b1 : decide (6 < l0_3.length) = true := decide_eq_true (by omega)
        clear c17
        obtain rfl := Option.some.inj H
        have hnb18 := NB101_102.out
        have hnc18 := NB102_101.out
        have hcz19_0 : wc.cell? ⟨gb101, 0, none⟩ = some (.int .i64 a0_0) := (Qab BK101.out 0).trans rfl
        have hcz19_1 : wc.cell? ⟨gb101, 1, none⟩ = some (.int .i64 a0_1) := (Qab BK101.out 1).trans rfl
        have hcz19_2 : wc.cell? ⟨gb101, 2, none⟩ = some (.slice A0_2 l0_2.length c0_2) := (Qab BK101.out 2).trans rfl
        have hcz19_3 : wc.cell? ⟨gb101, 3, none⟩ = some (.slice A0_3 l0_3.length c0_3) := (Qab BK101.out 3).trans rfl
        have hcz19_4 : wc.cell? ⟨gb101, 4, none⟩ = some (.int .i64 a0_4) := (Qab BK101.out 4).trans rfl
        have hcz19_5 : wc.cell? ⟨gb101, 5, none⟩ = some (.bool a0_5) := (Qab BK101.out 5).trans rfl
        have hfz19_0 := Qad BK101.out 0
        have hfz19_1 := Qad BK101.out 1
        have hfz19_2 := Qad BK101.out 2
        have hfz19_3 := Qad BK101.out 3
        have hfz19_4 := Qad BK101.out 4
        have hfz19_5 := Qad BK101.out 5
        go_wp2
        go_ret
        exact ⟨by first | rfl | (simp [Qaf, Qag] <;> rfl) | (simp [*, Qaf, Qag] <;> rfl), bw_⟩
      · rw [if_neg c17] at H
        have c17b0 : decide (6 < (l0_3.length : Int)) = false := decide_eq_false c17
        have c17b1 : decide (6 < l0_3.length) = false := decide_eq_false (by omega)
        clear c17
        replace H := Option.bind_eq_some_iff.mp H
        obtain ⟨t107, A200, H⟩ := H
        replace H : (if t107 = true then ((Qbn.f l0_3 a2).bind fun t108 => (if t108 = true then ((Qbm.f a0_4 (-1) (wrap64 (a2 - 1))).bind fun t109 => (if t109 = true then (if a0_5 = true then (if (l0_3.length : Int) = 0 then (some (a0_4 == (-1))) else (some false)) else (some true)) else (some false))) else (some false))) else (some false)) = some r := H
        have A20 := Aside0.mk A200
        clear A200
        by_cases c21 : t107 = true
        · subst c21
          have H1 : ((Qbn.f l0_3 a2).bind fun t108 => (if t108 = true then ((Qbm.f a0_4 (-1) (wrap64 (a2 - 1))).bind fun t109 => (if t109 = true then (if a0_5 = true then (if (l0_3.length : Int) = 0 then (some (a0_4 == (-1))) else (some false)) else (some true)) else (some false))) else (some false))) = some r := by rw [if_pos rfl] at H; exact H
          clear H
          have H := H1
          clear H1
          replace H := Option.bind_eq_some_iff.mp H
          obtain ⟨t108, A220, H⟩ := H
          replace H : (if t108 = true then ((Qbm.f a0_4 (-1) (wrap64 (a2 - 1))).bind fun t109 => (if t109 = true then (if a0_5 = true then (if (l0_3.length : Int) = 0 then (some (a0_4 == (-1))) else (some false)) else (some true)) else (some false))) else (some false)) = some r := H
          have A22 := Aside0.mk A220
          clear A220
          by_cases c23 : t108 = true
          · subst c23
            have H1 : ((Qbm.f a0_4 (-1) (wrap64 (a2 - 1))).bind fun t109 => (if t109 = true then (if a0_5 = true then (if (l0_3.length : Int) = 0 then (some (a0_4 == (-1))) else (some false)) else (some true)) else (some false))) = some r := by rw [if_pos rfl] at H; exact H
            clear H
            have H := H1
            clear H1
            replace H := Option.bind_eq_some_iff.mp H
            obtain ⟨t109, A240, H⟩ := H
            replace H : (if t109 = true then (if a0_5 = true then (if (l0_3.length : Int) = 0 then (some (a0_4 == (-1))) else (some false)) else (some true)) else (some false)) = some r := H
            have A24 := Aside0.mk A240
            clear A240
            by_cases c25 : t109 = true
            · subst c25
              have H1 : (if a0_5 = true then (if (l0_3.length : Int) = 0 then (some (a0_4 == (-1))) else (some false)) else (some true)) = some r := by rw [if_pos rfl] at H; exact H
              clear H
              have H := H1
              clear H1
              by_cases c26 : a0_5 = true
              · subst c26
                have H1 : (if (l0_3.length : Int) = 0 then (some (a0_4 == (-1))) else (some false)) = some r := by rw [if_pos rfl] at H; exact H
                clear H
                have H := H1
                clear H1
                by_cases c27 : (l0_3.length : Int) = 0
                · rw [if_pos c27] at H
                  have c27b0 : ((l0_3.length : Int) == 0) = true := beq_iff_eq.mpr c27
                  have c27b1 : ((l0_3.length : Int) != 0) = false := bne_eq_false_iff_eq.mpr c27
                  clear c27
                  obtain rfl := Option.some.inj H
                  have hnb28 := NB101_102.out
                  have hnc28 := NB102_101.out
                  have hcz29_0 : wc.cell? ⟨gb101, 0, none⟩ = some (.int .i64 a0_0) := (Qab BK101.out 0).trans rfl
                  have hcz29_1 : wc.cell? ⟨gb101, 1, none⟩ = some (.int .i64 a0_1) := (Qab BK101.out 1).trans rfl
                  have hcz29_2 : wc.cell? ⟨gb101, 2, none⟩ = some (.slice A0_2 l0_2.length c0_2) := (Qab BK101.out 2).trans rfl
                  have hcz29_3 : wc.cell? ⟨gb101, 3, none⟩ = some (.slice A0_3 l0_3.length c0_3) := (Qab BK101.out 3).trans rfl
                  have hcz29_4 : wc.cell? ⟨gb101, 4, none⟩ = some (.int .i64 a0_4) := (Qab BK101.out 4).trans rfl
                  have hcz29_5 : wc.cell? ⟨gb101, 5, none⟩ = some (.bool true) := (Qab BK101.out 5).trans rfl
                  have hfz29_0 := Qad BK101.out 0
                  have hfz29_1 := Qad BK101.out 1
                  have hfz29_2 := Qad BK101.out 2
                  have hfz29_3 := Qad BK101.out 3
                  have hfz29_4 := Qad BK101.out 4
                  have hfz29_5 := Qad BK101.out 5
                  go_wp2_with (first | (go_at_call 120; (with_reducible refine (Qbn.calls _ _ l0_2 a2 true _ ?side1 ?side2 A20.out).mono ?_); (case side1 => exact cb_); (case side2 => exact HC0_2.out); rintro e w30 ⟨rfl, hb⟩; have n0_ := Aside0.mk (bb_ BK101 hb); have n1_ := Aside0.mk (bb_ BK102 hb); have n2_ := Aside0.mk (Qac (bw_) hb); clear BK101; clear BK102; clear HB; have BK101 := n0_; have BK102 := n1_; have HB := n2_; clear n0_ n1_ n2_; (try clear hb); (try clear hb2); (try clear hk); (try clear hi); obtain ⟨hcz31_0, hcz31_1, hcz31_2, hcz31_3, hcz31_4, hcz31_5, hfz31_0, hfz31_1, hfz31_2, hfz31_3, hfz31_4, hfz31_5⟩ := Qbl BK101.out) | (go_at_call 120; (with_reducible refine (Qbn.calls _ _ l0_3 a2 true _ ?side1 ?side2 A22.out).mono ?_); (case side1 => exact cb_); (case side2 => exact HC0_3.out); rintro e w32 ⟨rfl, hb⟩; have n0_ := Aside0.mk (bb_ BK101 hb); have n1_ := Aside0.mk (bb_ BK102 hb); have n2_ := Aside0.mk (Qac (bw_) hb); clear BK101; clear BK102; clear HB; have BK101 := n0_; have BK102 := n1_; have HB := n2_; clear n0_ n1_ n2_; (try clear hb); (try clear hb2); (try clear hk); (try clear hi); obtain ⟨hcz33_0, hcz33_1, hcz33_2, hcz33_3, hcz33_4, hcz33_5, hfz33_0, hfz33_1, hfz33_2, hfz33_3, hfz33_4, hfz33_5⟩ := Qbl BK101.out) | (go_at_call 62; (with_reducible refine (Qbm.calls a0_4 (-1) (wrap64 (a2 - 1)) true _ A24.out).mono ?_); rintro e w' ⟨rfl, ⟨nd, rfl⟩⟩))
                  go_ret
                  exact ⟨by first | rfl | (simp [Qaf, Qag] <;> rfl) | (simp [*, Qaf, Qag] <;> rfl), bw_⟩
                · rw [if_neg c27] at H
                  have c27b0 : ((l0_3.length : Int) == 0) = false := beq_eq_false_iff_ne.mpr c27
                  have c27b1 : ((l0_3.length : Int) != 0) = true := bne_iff_ne.mpr c27
                  have c27b2 : ¬ (l0_3 = []) := fun h_ => c27 (by rw [h_]; rfl)
                  obtain rfl := Option.some.inj H
                  have hnb34 := NB101_102.out
                  have hnc34 := NB102_101.out
                  have hcz35_0 : wc.cell? ⟨gb101, 0, none⟩ = some (.int .i64 a0_0) := (Qab BK101.out 0).trans rfl
                  have hcz35_1 : wc.cell? ⟨gb101, 1, none⟩ = some (.int .i64 a0_1) := (Qab BK101.out 1).trans rfl
                  have hcz35_2 : wc.cell? ⟨gb101, 2, none⟩ = some (.slice A0_2 l0_2.length c0_2) := (Qab BK101.out 2).trans rfl
                  have hcz35_3 : wc.cell? ⟨gb101, 3, none⟩ = some (.slice A0_3 l0_3.length c0_3) := (Qab BK101.out 3).trans rfl
                  have hcz35_4 : wc.cell? ⟨gb101, 4, none⟩ = some (.int .i64 a0_4) := (Qab BK101.out 4).trans rfl
                  have hcz35_5 : wc.cell? ⟨gb101, 5, none⟩ = some (.bool true) := (Qab BK101.out 5).trans rfl
                  have hfz35_0 := Qad BK101.out 0
                  have hfz35_1 := Qad BK101.out 1
                  have hfz35_2 := Qad BK101.out 2
                  have hfz35_3 := Qad BK101.out 3
                  have hfz35_4 := Qad BK101.out 4
                  have hfz35_5 := Qad BK101.out 5
                  go_wp2_with (first | (go_at_call 120; (with_reducible refine (Qbn.calls _ _ l0_2 a2 true _ ?side1 ?side2 A20.out).mono ?_); (case side1 => exact cb_); (case side2 => exact HC0_2.out); rintro e w36 ⟨rfl, hb⟩; have n0_ := Aside0.mk (bb_ BK101 hb); have n1_ := Aside0.mk (bb_ BK102 hb); have n2_ := Aside0.mk (Qac (bw_) hb); clear BK101; clear BK102; clear HB; have BK101 := n0_; have BK102 := n1_; have HB := n2_; clear n0_ n1_ n2_; (try clear hb); (try clear hb2); (try clear hk); (try clear hi); obtain ⟨hcz37_0, hcz37_1, hcz37_2, hcz37_3, hcz37_4, hcz37_5, hfz37_0, hfz37_1, hfz37_2, hfz37_3, hfz37_4, hfz37_5⟩ := Qbl BK101.out) | (go_at_call 120; (with_reducible refine (Qbn.calls _ _ l0_3 a2 true _ ?side1 ?side2 A22.out).mono ?_); (case side1 => exact cb_); (case side2 => exact HC0_3.out); rintro e w38 ⟨rfl, hb⟩; have n0_ := Aside0.mk (bb_ BK101 hb); have n1_ := Aside0.mk (bb_ BK102 hb); have n2_ := Aside0.mk (Qac (bw_) hb); clear BK101; clear BK102; clear HB; have BK101 := n0_; have BK102 := n1_; have HB := n2_; clear n0_ n1_ n2_; (try clear hb); (try clear hb2); (try clear hk); (try clear hi); obtain ⟨hcz39_0, hcz39_1, hcz39_2, hcz39_3, hcz39_4, hcz39_5, hfz39_0, hfz39_1, hfz39_2, hfz39_3, hfz39_4, hfz39_5⟩ := Qbl BK101.out) | (go_at_call 62; (with_reducible refine (Qbm.calls a0_4 (-1) (wrap64 (a2 - 1)) true _ A24.out).mono ?_); rintro e w' ⟨rfl, ⟨nd, rfl⟩⟩))
                  go_ret
                  exact ⟨by first | rfl | (simp [Qaf, Qag] <;> rfl) | (simp [*, Qaf, Qag] <;> rfl), bw_⟩
              · replace c26 := Bool.eq_false_iff.mpr c26
                subst c26
                have H1 : (some true) = some r := by rw [if_neg (show ¬ (false = true) by decide)] at H; exact H
                clear H
                have H := H1
                clear H1
                obtain rfl := Option.some.inj H
                have hnb40 := NB101_102.out
                have hnc40 := NB102_101.out
                have hcz41_0 : wc.cell? ⟨gb101, 0, none⟩ = some (.int .i64 a0_0) := (Qab BK101.out 0).trans rfl
                have hcz41_1 : wc.cell? ⟨gb101, 1, none⟩ = some (.int .i64 a0_1) := (Qab BK101.out 1).trans rfl
                have hcz41_2 : wc.cell? ⟨gb101, 2, none⟩ = some (.slice A0_2 l0_2.length c0_2) := (Qab BK101.out 2).trans rfl
                have hcz41_3 : wc.cell? ⟨gb101, 3, none⟩ = some (.slice A0_3 l0_3.length c0_3) := (Qab BK101.out 3).trans rfl
                have hcz41_4 : wc.cell? ⟨gb101, 4, none⟩ = some (.int .i64 a0_4) := (Qab BK101.out 4).trans rfl
                have hcz41_5 : wc.cell? ⟨gb101, 5, none⟩ = some (.bool false) := (Qab BK101.out 5).trans rfl
                have hfz41_0 := Qad BK101.out 0
                have hfz41_1 := Qad BK101.out 1
                have hfz41_2 := Qad BK101.out 2
                have hfz41_3 := Qad BK101.out 3
                have hfz41_4 := Qad BK101.out 4
                have hfz41_5 := Qad BK101.out 5
                go_wp2_with (first | (go_at_call 120; (with_reducible refine (Qbn.calls _ _ l0_2 a2 true _ ?side1 ?side2 A20.out).mono ?_); (case side1 => exact cb_); (case side2 => exact HC0_2.out); rintro e w42 ⟨rfl, hb⟩; have n0_ := Aside0.mk (bb_ BK101 hb); have n1_ := Aside0.mk (bb_ BK102 hb); have n2_ := Aside0.mk (Qac (bw_) hb); clear BK101; clear BK102; clear HB; have BK101 := n0_; have BK102 := n1_; have HB := n2_; clear n0_ n1_ n2_; (try clear hb); (try clear hb2); (try clear hk); (try clear hi); obtain ⟨hcz43_0, hcz43_1, hcz43_2, hcz43_3, hcz43_4, hcz43_5, hfz43_0, hfz43_1, hfz43_2, hfz43_3, hfz43_4, hfz43_5⟩ := Qbl BK101.out) | (go_at_call 120; (with_reducible refine (Qbn.calls _ _ l0_3 a2 true _ ?side1 ?side2 A22.out).mono ?_); (case side1 => exact cb_); (case side2 => exact HC0_3.out); rintro e w44 ⟨rfl, hb⟩; have n0_ := Aside0.mk (bb_ BK101 hb); have n1_ := Aside0.mk (bb_ BK102 hb); have n2_ := Aside0.mk (Qac (bw_) hb); clear BK101; clear BK102; clear HB; have BK101 := n0_; have BK102 := n1_; have HB := n2_; clear n0_ n1_ n2_; (try clear hb); (try clear hb2); (try clear hk); (try clear hi); obtain ⟨hcz45_0, hcz45_1, hcz45_2, hcz45_3, hcz45_4, hcz45_5, hfz45_0, hfz45_1, hfz45_2, hfz45_3, hfz45_4, hfz45_5⟩ := Qbl BK101.out) | (go_at_call 62; (with_reducible refine (Qbm.calls a0_4 (-1) (wrap64 (a2 - 1)) true _ A24.out).mono ?_); rintro e w' ⟨rfl, ⟨nd, rfl⟩⟩))
                go_ret
                exact ⟨by first | rfl | (simp [Qaf, Qag] <;> rfl) | (simp [*, Qaf, Qag] <;> rfl), bw_⟩
            · replace c25 := Bool.eq_false_iff.mpr c25
              subst c25
              have H1 : (some false) = some r := by rw [if_neg (show ¬ (false = true) by decide)] at H; exact H
              clear H
              have H := H1
              clear H1
              obtain rfl := Option.some.inj H
              have hnb46 := NB101_102.out
              have hnc46 := NB102_101.out
              have hcz47_0 : wc.cell? ⟨gb101, 0, none⟩ = some (.int .i64 a0_0) := (Qab BK101.out 0).trans rfl
              have hcz47_1 : wc.cell? ⟨gb101, 1, none⟩ = some (.int .i64 a0_1) := (Qab BK101.out 1).trans rfl
              have hcz47_2 : wc.cell? ⟨gb101, 2, none⟩ = some (.slice A0_2 l0_2.length c0_2) := (Qab BK101.out 2).trans rfl
              have hcz47_3 : wc.cell? ⟨gb101, 3, none⟩ = some (.slice A0_3 l0_3.length c0_3) := (Qab BK101.out 3).trans rfl
              have hcz47_4 : wc.cell? ⟨gb101, 4, none⟩ = some (.int .i64 a0_4) := (Qab BK101.out 4).trans rfl
              have hcz47_5 : wc.cell? ⟨gb101, 5, none⟩ = some (.bool a0_5) := (Qab BK101.out 5).trans rfl
              have hfz47_0 := Qad BK101.out 0
              have hfz47_1 := Qad BK101.out 1
              have hfz47_2 := Qad BK101.out 2
              have hfz47_3 := Qad BK101.out 3
              have hfz47_4 := Qad BK101.out 4
              have hfz47_5 := Qad BK101.out 5
              go_wp2_with (first | (go_at_call 120; (with_reducible refine (Qbn.calls _ _ l0_2 a2 true _ ?side1 ?side2 A20.out).mono ?_); (case side1 => exact cb_); (case side2 => exact HC0_2.out); rintro e w48 ⟨rfl, hb⟩; have n0_ := Aside0.mk (bb_ BK101 hb); have n1_ := Aside0.mk (bb_ BK102 hb); have n2_ := Aside0.mk (Qac (bw_) hb); clear BK101; clear BK102; clear HB; have BK101 := n0_; have BK102 := n1_; have HB := n2_; clear n0_ n1_ n2_; (try clear hb); (try clear hb2); (try clear hk); (try clear hi); obtain ⟨hcz49_0, hcz49_1, hcz49_2, hcz49_3, hcz49_4, hcz49_5, hfz49_0, hfz49_1, hfz49_2, hfz49_3, hfz49_4, hfz49_5⟩ := Qbl BK101.out) | (go_at_call 120; (with_reducible refine (Qbn.calls _ _ l0_3 a2 true _ ?side1 ?side2 A22.out).mono ?_); (case side1 => exact cb_); (case side2 => exact HC0_3.out); rintro e w50 ⟨rfl, hb⟩; have n0_ := Aside0.mk (bb_ BK101 hb); have n1_ := Aside0.mk (bb_ BK102 hb); have n2_ := Aside0.mk (Qac (bw_) hb); clear BK101; clear BK102; clear HB; have BK101 := n0_; have BK102 := n1_; have HB := n2_; clear n0_ n1_ n2_; (try clear hb); (try clear hb2); (try clear hk); (try clear hi); obtain ⟨hcz51_0, hcz51_1, hcz51_2, hcz51_3, hcz51_4, hcz51_5, hfz51_0, hfz51_1, hfz51_2, hfz51_3, hfz51_4, hfz51_5⟩ := Qbl BK101.out) | (go_at_call 62; (with_reducible refine (Qbm.calls a0_4 (-1) (wrap64 (a2 - 1)) false _ A24.out).mono ?_); rintro e w' ⟨rfl, ⟨nd, rfl⟩⟩))
              go_ret
              exact ⟨by first | rfl | (simp [Qaf, Qag] <;> rfl) | (simp [*, Qaf, Qag] <;> rfl), bw_⟩
          · replace c23 := Bool.eq_false_iff.mpr c23
            subst c23
            have H1 : (some false) = some r := by rw [if_neg (show ¬ (false = true) by decide)] at H; exact H
            clear H
            have H := H1
            clear H1
            obtain rfl := Option.some.inj H
            have hnb52 := NB101_102.out
            have hnc52 := NB102_101.out
            have hcz53_0 : wc.cell? ⟨gb101, 0, none⟩ = some (.int .i64 a0_0) := (Qab BK101.out 0).trans rfl
            have hcz53_1 : wc.cell? ⟨gb101, 1, none⟩ = some (.int .i64 a0_1) := (Qab BK101.out 1).trans rfl
            have hcz53_2 : wc.cell? ⟨gb101, 2, none⟩ = some (.slice A0_2 l0_2.length c0_2) := (Qab BK101.out 2).trans rfl
            have hcz53_3 : wc.cell? ⟨gb101, 3, none⟩ = some (.slice A0_3 l0_3.length c0_3) := (Qab BK101.out 3).trans rfl
            have hcz53_4 : wc.cell? ⟨gb101, 4, none⟩ = some (.int .i64 a0_4) := (Qab BK101.out 4).trans rfl
            have hcz53_5 : wc.cell? ⟨gb101, 5, none⟩ = some (.bool a0_5) := (Qab BK101.out 5).trans rfl
            have hfz53_0 := Qad BK101.out 0
            have hfz53_1 := Qad BK101.out 1
            have hfz53_2 := Qad BK101.out 2
            have hfz53_3 := Qad BK101.out 3
            have hfz53_4 := Qad BK101.out 4
            have hfz53_5 := Qad BK101.out 5
            go_wp2_with (first | (go_at_call 120; (with_reducible refine (Qbn.calls _ _ l0_2 a2 true _ ?side1 ?side2 A20.out).mono ?_); (case side1 => exact cb_); (case side2 => exact HC0_2.out); rintro e w54 ⟨rfl, hb⟩; have n0_ := Aside0.mk (bb_ BK101 hb); have n1_ := Aside0.mk (bb_ BK102 hb); have n2_ := Aside0.mk (Qac (bw_) hb); clear BK101; clear BK102; clear HB; have BK101 := n0_; have BK102 := n1_; have HB := n2_; clear n0_ n1_ n2_; (try clear hb); (try clear hb2); (try clear hk); (try clear hi); obtain ⟨hcz55_0, hcz55_1, hcz55_2, hcz55_3, hcz55_4, hcz55_5, hfz55_0, hfz55_1, hfz55_2, hfz55_3, hfz55_4, hfz55_5⟩ := Qbl BK101.out) | (go_at_call 120; (with_reducible refine (Qbn.calls _ _ l0_3 a2 false _ ?side1 ?side2 A22.out).mono ?_); (case side1 => exact cb_); (case side2 => exact HC0_3.out); rintro e w56 ⟨rfl, hb⟩; have n0_ := Aside0.mk (bb_ BK101 hb); have n1_ := Aside0.mk (bb_ BK102 hb); have n2_ := Aside0.mk (Qac (bw_) hb); clear BK101; clear BK102; clear HB; have BK101 := n0_; have BK102 := n1_; have HB := n2_; clear n0_ n1_ n2_; (try clear hb); (try clear hb2); (try clear hk); (try clear hi)))
            go_ret
            exact ⟨by first | rfl | (simp [Qaf, Qag] <;> rfl) | (simp [*, Qaf, Qag] <;> rfl), bw_⟩
        · replace c21 := Bool.eq_false_iff.mpr c21
          subst c21
          have H1 : (some false) = some r := by rw [if_neg (show ¬ (false = true) by decide)] at H; exact H
          clear H
          have H := H1
          clear H1
          obtain rfl := Option.some.inj H
          have hnb57 := NB101_102.out
          have hnc57 := NB102_101.out
          have hcz58_0 : wc.cell? ⟨gb101, 0, none⟩ = some (.int .i64 a0_0) := (Qab BK101.out 0).trans rfl
          have hcz58_1 : wc.cell? ⟨gb101, 1, none⟩ = some (.int .i64 a0_1) := (Qab BK101.out 1).trans rfl
          have hcz58_2 : wc.cell? ⟨gb101, 2, none⟩ = some (.slice A0_2 l0_2.length c0_2) := (Qab BK101.out 2).trans rfl
          have hcz58_3 : wc.cell? ⟨gb101, 3, none⟩ = some (.slice A0_3 l0_3.length c0_3) := (Qab BK101.out 3).trans rfl
          have hcz58_4 : wc.cell? ⟨gb101, 4, none⟩ = some (.int .i64 a0_4) := (Qab BK101.out 4).trans rfl
          have hcz58_5 : wc.cell? ⟨gb101, 5, none⟩ = some (.bool a0_5) := (Qab BK101.out 5).trans rfl
          have hfz58_0 := Qad BK101.out 0
          have hfz58_1 := Qad BK101.out 1
          have hfz58_2 := Qad BK101.out 2
          have hfz58_3 := Qad BK101.out 3
          have hfz58_4 := Qad BK101.out 4
          have hfz58_5 := Qad BK101.out 5
          go_wp2_with (first | (go_at_call 120; (with_reducible refine (Qbn.calls _ _ l0_2 a2 false _ ?side1 ?side2 A20.out).mono ?_); (case side1 => exact cb_); (case side2 => exact HC0_2.out); rintro e w59 ⟨rfl, hb⟩; have n0_ := Aside0.mk (bb_ BK101 hb); have n1_ := Aside0.mk (bb_ BK102 hb); have n2_ := Aside0.mk (Qac (bw_) hb); clear BK101; clear BK102; clear HB; have BK101 := n0_; have BK102 := n1_; have HB := n2_; clear n0_ n1_ n2_; (try clear hb); (try clear hb2); (try clear hk); (try clear hi)))
          go_ret
          exact ⟨by first | rfl | (simp [Qaf, Qag] <;> rfl) | (simp [*, Qaf, Qag] <;> rfl), bw_⟩
end Go.Proofs.Ytabcijheemjplaa.G
namespace Go.Proofs.Ytabcijheemjplaa.G
open Go.RowKit Go.Proofs.YtabcijheemjplaaW.PrintWords Go.Proofs.YtabcijheemjplaaW.PrintLast Go.Proofs.YtabcijheemjplaaW.PrintMore
attribute [local go_sem] Qa3 Qa4 Qbc Qbd QaP QaQ Qa5 Qa6
set_option linter.unusedVariables false
set_option linter.unusedSimpArgs false
set_option maxHeartbeats 4000000 in
set_option maxRecDepth 100000 in
theorem idx_impl_Method (g : Nat) (lb : Array Value) (eg : ∀ args w, (callFunc g args).run Try.prog w = .ok (.enter g args) w) (p : Qai → Bool) (A : Option Addr) (c : Nat) (l : List Qai) (w : World) (hr : Kd.C QaI w A l.length l)
 (hp : ∀ W, Below w.heap.size w W → ∀ x cs, x ∈ l → (QaI).K W x cs → Calls Try.prog g (#[.agg cs.toArray] ++ lb) W fun e w' => e = .returned (.bool (p x)) ∧ Below w.heap.size w w') :
 Calls Try.prog 107 #[.slice A l.length c, .func (.func g) #[] lb] w fun e w' => (∃ i : Int, e = .returned (.int .i64 i) ∧ decide (0 ≤ i) = l.any p) ∧ Below w.heap.size w w' := by
 have hl : l.length ≤ 9223372036854775807 := hr.2.1
 have HP := Aside0.mk hp
 have HR := Aside0.mk hr
 clear hp hr
 go_enter Try.func107, Try.ntmps107
 go_wp2
 go_loopg [5, 8] l.length (fun gg _ s8 wr => ∃ kk : Nat, kk ≤ l.length ∧ l.length - kk ≤ gg ∧ s8 = .int .i64 kk ∧ Aside0 (Below w.heap.size w wr) ∧ Aside0 (∀ j x, j < kk → l[j]? = some x → p x = false))
 case atStart => exact ⟨0, Nat.zero_le _, by omega, rfl, ⟨Below.refl _ w⟩, ⟨fun j x hj => absurd hj (Nat.not_lt_zero _)⟩⟩
 case round =>
  obtain ⟨kk, hkk, hg, rfl, BW, A0⟩ := hrel
  by_cases hlt : kk < l.length
  · have hltz : (kk : Int) < (l.length : Int) := by omega
    have hmem : Qae l kk ∈ l := by
     unfold Qae
     rw [List.getD_eq_getElem?_getD, Int.toNat_natCast, List.getElem?_eq_getElem hlt]
     exact List.getElem_mem hlt
    have hget : l[kk]? = some (Qae l kk) := by
     unfold Qae
     rw [List.getD_eq_getElem?_getD, Int.toNat_natCast, List.getElem?_eq_getElem hlt]
     rfl
    obtain ⟨ad, A2, c2, rfl, hx0, hx1, hx2, hl2, hr2⟩ := Qbh (Kd.C_below HR.out BW.out) (kk : Int) (by omega) hltz
    have hcall := HP.out wr BW.out (Qae l kk) [.int .i64 (Qae l kk).f0, .int .i64 (Qae l kk).f1, .slice A2 (Qae l kk).f2.length c2] hmem (k_impl_Method_mk wr _ hl2 hr2)
    simp only [Int.toNat_natCast] at hx0 hx1 hx2
    have GET := Aside0.mk hget
    clear hget hmem hl2 hr2
    generalize hy : Qae l kk = y at *
    clear hy
    cases hq : p y with
    | true =>
      rw [hq] at hcall
      go_wp2_with (go_at_fn g; refine hcall.mono ?_; rintro e w' ⟨rfl, hb'⟩)
      go_ret
      refine ⟨⟨_, rfl, ?_⟩, hb'⟩
      have h1 : l.any p = true := List.any_eq_true.mpr ⟨_, List.mem_of_getElem? GET.out, hq⟩
      rw [h1]
      exact decide_eq_true (by omega)
    | false =>
      rw [hq] at hcall
      go_wp2_with (go_at_fn g; refine hcall.mono ?_; rintro e w' ⟨rfl, hb'⟩)
      go_roundg (l.length - (kk + 1))
      case measure => omega
      case rel =>
       refine ⟨kk + 1, by omega, by omega, by go_num, ⟨hb'⟩, ⟨fun j x hj hx => ?_⟩⟩
       by_cases e : j = kk
       · subst e
         have := GET.out.symm.trans hx
         injection this with this
         rw [← this]; exact hq
       · exact A0.out j x (by omega) hx
  · have hltz : ¬ (kk : Int) < (l.length : Int) := by omega
    have : kk = l.length := by omega
    subst this
    go_wp2
    go_ret
    refine ⟨⟨_, rfl, ?_⟩, BW.out⟩
    have h1 : l.any p = false := by
     rw [List.any_eq_false]
     intro x hx
     obtain ⟨j, hj, rfl⟩ := List.mem_iff_getElem.mp hx
     have := A0.out j _ hj (List.getElem?_eq_getElem hj)
     simp [this]
    rw [h1]
    rfl
set_option maxHeartbeats 4000000 in
theorem contains_impl_Method (g : Nat) (lb : Array Value) (eg : ∀ args w, (callFunc g args).run Try.prog w = .ok (.enter g args) w) (p : Qai → Bool) (A : Option Addr) (c : Nat) (l : List Qai) (w : World) (hr : Kd.C QaI w A l.length l)
 (hp : ∀ W, Below w.heap.size w W → ∀ x cs, x ∈ l → (QaI).K W x cs → Calls Try.prog g (#[.agg cs.toArray] ++ lb) W fun e w' => e = .returned (.bool (p x)) ∧ Below w.heap.size w w') :
 Calls Try.prog 63 #[.slice A l.length c, .func (.func g) #[] lb] w fun e w' => e = .returned (.bool (l.any p)) ∧ Below w.heap.size w w' := by
 have HP := Aside0.mk hp
 have HR := Aside0.mk hr
 clear hp hr
 go_enter Try.func63, Try.ntmps63
 go_wp2_with (go_at_call 107; refine (idx_impl_Method g lb eg p A c l _ HR.out HP.out).mono ?_; rintro e w' ⟨⟨i, rfl, hi⟩, hb'⟩; have HI := Aside0.mk hi; clear hi)
 go_ret
 exact ⟨by rw [← HI.out]; rfl, hb'⟩
set_option maxHeartbeats 4000000 in
set_option maxRecDepth 100000 in
theorem idx_impl_Op (g : Nat) (lb : Array Value) (eg : ∀ args w, (callFunc g args).run Try.prog w = .ok (.enter g args) w) (p : QaW → Bool) (A : Option Addr) (c : Nat) (l : List QaW) (w : World) (hr : Kd.C Qbk w A l.length l)
 (hp : ∀ W, Below w.heap.size w W → ∀ x cs, x ∈ l → (Qbk).K W x cs → Calls Try.prog g (#[.agg cs.toArray] ++ lb) W fun e w' => e = .returned (.bool (p x)) ∧ Below w.heap.size w w') :
 Calls Try.prog 108 #[.slice A l.length c, .func (.func g) #[] lb] w fun e w' => (∃ i : Int, e = .returned (.int .i64 i) ∧ decide (0 ≤ i) = l.any p) ∧ Below w.heap.size w w' := by
 have hl : l.length ≤ 9223372036854775807 := hr.2.1
 have HP := Aside0.mk hp
 have HR := Aside0.mk hr
 clear hp hr
 go_enter Try.func108, Try.ntmps108
 go_wp2
 go_loopg [5, 8] l.length (fun gg _ s8 wr => ∃ kk : Nat, kk ≤ l.length ∧ l.length - kk ≤ gg ∧ s8 = .int .i64 kk ∧ Aside0 (Below w.heap.size w wr) ∧ Aside0 (∀ j x, j < kk → l[j]? = some x → p x = false))
 case atStart => exact ⟨0, Nat.zero_le _, by omega, rfl, ⟨Below.refl _ w⟩, ⟨fun j x hj => absurd hj (Nat.not_lt_zero _)⟩⟩
 case round =>
  obtain ⟨kk, hkk, hg, rfl, BW, A0⟩ := hrel
  by_cases hlt : kk < l.length
  · have hltz : (kk : Int) < (l.length : Int) := by omega
    have hmem : QaH l kk ∈ l := by
     unfold QaH
     rw [List.getD_eq_getElem?_getD, Int.toNat_natCast, List.getElem?_eq_getElem hlt]
     exact List.getElem_mem hlt
    have hget : l[kk]? = some (QaH l kk) := by
     unfold QaH
     rw [List.getD_eq_getElem?_getD, Int.toNat_natCast, List.getElem?_eq_getElem hlt]
     rfl
    obtain ⟨ad, rfl, hx0, hx1⟩ := Qck (Kd.C_below HR.out BW.out) (kk : Int) (by omega) hltz
    have hcall := HP.out wr BW.out (QaH l kk) [.int .i64 (QaH l kk).f0, .int .i64 (QaH l kk).f1] hmem (k_impl_Op_mk wr _)
    simp only [Int.toNat_natCast] at hx0 hx1
    have GET := Aside0.mk hget
    clear hget hmem
    generalize hy : QaH l kk = y at *
    clear hy
    cases hq : p y with
    | true =>
      rw [hq] at hcall
      go_wp2_with (go_at_fn g; refine hcall.mono ?_; rintro e w' ⟨rfl, hb'⟩)
      go_ret
      refine ⟨⟨_, rfl, ?_⟩, hb'⟩
      have h1 : l.any p = true := List.any_eq_true.mpr ⟨_, List.mem_of_getElem? GET.out, hq⟩
      rw [h1]
      exact decide_eq_true (by omega)
    | false =>
      rw [hq] at hcall
      go_wp2_with (go_at_fn g; refine hcall.mono ?_; rintro e w' ⟨rfl, hb'⟩)
      go_roundg (l.length - (kk + 1))
      case measure => omega
      case rel =>
       refine ⟨kk + 1, by omega, by omega, by go_num, ⟨hb'⟩, ⟨fun j x hj hx => ?_⟩⟩
       by_cases e : j = kk
       · subst e
         have := GET.out.symm.trans hx
         injection this with this
         rw [← this]; exact hq
       · exact A0.out j x (by omega) hx
  · have hltz : ¬ (kk : Int) < (l.length : Int) := by omega
    have : kk = l.length := by omega
    subst this
    go_wp2
    go_ret
    refine ⟨⟨_, rfl, ?_⟩, BW.out⟩
    have h1 : l.any p = false := by
     rw [List.any_eq_false]
     intro x hx
     obtain ⟨j, hj, rfl⟩ := List.mem_iff_getElem.mp hx
     have := A0.out j _ hj (List.getElem?_eq_getElem hj)
     simp [this]
    rw [h1]
    rfl
set_option maxHeartbeats 4000000 in
theorem contains_impl_Op (g : Nat) (lb : Array Value) (eg : ∀ args w, (callFunc g args).run Try.prog w = .ok (.enter g args) w) (p : QaW → Bool) (A : Option Addr) (c : Nat) (l : List QaW) (w : World) (hr : Kd.C Qbk w A l.length l)
 (hp : ∀ W, Below w.heap.size w W → ∀ x cs, x ∈ l → (Qbk).K W x cs → Calls Try.prog g (#[.agg cs.toArray] ++ lb) W fun e w' => e = .returned (.bool (p x)) ∧ Below w.heap.size w w') :
 Calls Try.prog 65 #[.slice A l.length c, .func (.func g) #[] lb] w fun e w' => e = .returned (.bool (l.any p)) ∧ Below w.heap.size w w' := by
 have HP := Aside0.mk hp
 have HR := Aside0.mk hr
 clear hp hr
 go_enter Try.func65, Try.ntmps65
 go_wp2_with (go_at_call 108; refine (idx_impl_Op g lb eg p A c l _ HR.out HP.out).mono ?_; rintro e w' ⟨⟨i, rfl, hi⟩, hb'⟩; have HI := Aside0.mk hi; clear hi)
 go_ret
 exact ⟨by rw [← HI.out]; rfl, hb'⟩
end Go.Proofs.Ytabcijheemjplaa.G
