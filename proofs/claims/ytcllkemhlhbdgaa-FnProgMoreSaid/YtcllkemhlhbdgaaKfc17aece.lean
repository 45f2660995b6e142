import Derived.Test.YtcllkemhlhbdgaaKc764db87
import Derived.Test.YtcllkemhlhbdgaaK0cda1533
import Derived.Test.YtcllkemhlhbdgaaKc8bf1e62
import Derived.Shelf.Abstract
import Derived.Test.YtcllkemhlhbdgaaK24176022
import Derived.Test.YtcllkemhlhbdgaaK119d529c
import Derived.Test.YtcllkemhlhbdgaaK8eabcbd7
namespace Go.Proofs.Ytcllkemhlhbdgaa.G
open Go.RowKit Go.Proofs.YtcllkemhlhbdgaaW.PrintWords Go.Proofs.YtcllkemhlhbdgaaW.PrintLast Go.Proofs.YtcllkemhlhbdgaaW.PrintMore
attribute [local go_sem] max2_int min2_int max_two min_two max_three min_three max_four min_four
set_option linter.unusedVariables false
set_option linter.unusedSimpArgs false
set_option maxHeartbeats 2000000 in
theorem drawProgOk_any (A0 : Option Addr) (c0 : Nat) (l0 : List Int) (w : World) (hr0 : Kd.C (Kd.int .u8) w A0 l0.length l0) (hc0 : l0.length ≤ c0) (hl : l0.length ≤ 1048576) (hb : ∀ x, x ∈ l0 → 0 ≤ x ∧ x ≤ 255) :
    Calls Try.prog 29 #[.slice A0 l0.length c0] w fun e w' => ∃ A c l, e = .returned (.agg #[.slice A l.length c]) ∧ DrawnR w.heap.size w'.heap.size A c l w' ∧ Below w.heap.size w w' := by
  have HR := Aside0.mk hr0
  have HB := Aside0.mk hb
  clear hr0 hb
  go_enter Try.func29, Try.ntmps29
  go_upto_if 11 with (first | (go_at_call 68; refine (open_any A0 c0 l0 w _ (below_alloc (Below.refl _ _) _) HR.out hc0 hl HB.out).mono ?_; rintro e W1 ⟨g, s, rfl, hI, hB1, hB2, hc⟩; have I1 := Aside0.mk hI; have B1 := Aside0.mk hB1; have C1 := Aside0.mk hc; have b2 := (hB2.block w.heap.size (by simp)).trans (heap_alloc_new _ _); have N2 := Aside0.mk (hI.ne_blk b2 (by decide)); have B2 := Aside0.mk b2; have G1 := hI.lt; have hs1 := hB2.size; simp only [World.size_alloc] at hs1; clear hI hB1 hB2 hc b2) | (go_at_call 71; refine (prog_any g s 0 w _ I1.out B1.out C1.out (by omega)).mono ?_; rintro e W2 ⟨A, c, l, p1, rfl, hD, hS1, hB1, hK1, hok, hne, hl2, hp1, hp2⟩; have D2 := Aside0.mk ((DrSt.call (DrSt.new I1.out B1.out) hS1 hB1 hK1).alloc (.cells #[.slice A l.length c] 46)); have hs2 := hK1.1; have b2 := hK1.blk B2.out (Ne.symm N2.out) (by simp); have PR := Aside0.mk (⟨hD.alloc (Nat.le_refl _) _, hok, hne, hl2⟩ : DrawnR _ _ A c l (W2.alloc (.cells #[.slice A l.length c] 46)) ∧ _ ∧ _ ∧ _); clear hS1 hB1 hK1 hD hok hne hl2) | (go_at_call 70; refine (pick_any g s p1 _ w _ D2.out.st D2.out.bel (C1.out.to hp1) (by omega)).mono ?_; rintro e W3 ⟨r, rfl, ⟨hr0, hr1⟩, hS1, hB1, hK1⟩; have D3 := Aside0.mk (D2.out.call hS1 hB1 hK1); have c3 := hK1.blk (heap_alloc_new W2 _) (by omega) (by simp); have c2 := hK1.blk ((Below.heap_alloc _ _ _ (by omega)).trans b2) (Ne.symm N2.out) (by simp); have HD := Aside0.mk (PR.out.1.keep (by simp) (by omega) hK1); have hs3 := hK1.1; simp only [World.size_alloc] at hs3; clear hS1 hB1 hK1 b2))
  have z3 := (blk_cell c3 0).trans rfl
  have z2 := (blk_cell c2 0).trans rfl
  have f2 := blk_frozen c2 0
  have C2 := Aside0.mk c2
  clear c2 c3
  by_cases r0 : r = 0
  · subst r0
    go_wp2_with (go_at_call 72; refine (l71Bent_any g s (p1 + 1) A c l w _ D3.out.st D3.out.bel (C1.out.to (by omega)) (by omega) HD.out.now (by have := HD.out.few; omega) (by have := PR.out.2.2.2; omega) (fun m hm => ⟨PR.out.2.2.1 m hm, HD.out.ops m hm⟩)).mono ?_; rintro e W4 ⟨A', c', l', p', rfl, hl', hC', hS1, hB1, hK1, hlen, hops, hp3, hp4⟩; have d2 := hK1.blk C2.out (Ne.symm N2.out) (by simp); have HD3 := Aside0.mk ((⟨hl', hC', by have := (progOkB_few PR.out.2.1).1; omega, hops⟩ : DrawnR W3.heap.size W4.heap.size A' c' l' W4).set_ (b := w.heap.size) (j := 0) (.inl (by omega)) (.slice A' l'.length c')); have BE := Aside0.mk (hB1.setCell (p := ⟨w.heap.size, 0, none⟩) (Nat.le_refl _) (.slice A' l'.length c')); have hs4 := hK1.1; have y2 := (blk_cell d2 0).trans rfl; have g2 := blk_frozen d2 0; have E2 := Aside0.mk d2; clear hS1 hB1 hK1 d2)
    refine bodyPost_ret (results_cell_row rfl _ _ w.heap.size 46 #[.slice A' l'.length c'] (0, 0) _ rfl (by simpa using blk_set E2.out 0 (.slice A' l'.length c')) Try.underlying46 rfl (by kernel_rfl)) rfl ?_
    exact ⟨A', c', l', rfl, HD3.out.move (by omega) (by simp) (fun _ _ _ => rfl), BE.out⟩
  · have hne : (r == 0) = false := beq_eq_false_iff_ne.mpr r0
    clear r0
    go_wp2
    refine bodyPost_ret (results_cell_row rfl _ _ w.heap.size 46 #[.slice A l.length c] (0, 0) _ rfl (by simpa using blk_set C2.out 0 (.slice A l.length c)) Try.underlying46 rfl (by kernel_rfl)) rfl ?_
    exact ⟨A, c, l, rfl, (HD.out.set_ (b := w.heap.size) (j := 0) (.inl (by omega)) (.slice A l.length c)).move (by omega) (by simp; omega) (fun _ _ _ => rfl), D3.out.bel.setCell (p := ⟨w.heap.size, 0, none⟩) (Nat.le_refl _) _⟩
end Go.Proofs.Ytcllkemhlhbdgaa.G
namespace Go.Proofs.Ytcllkemhlhbdgaa.G
open Go.RowKit Go.Proofs.YtcllkemhlhbdgaaW.PrintWords Go.Proofs.YtcllkemhlhbdgaaW.PrintLast Go.Proofs.YtcllkemhlhbdgaaW.PrintMore
attribute [local go_sem] max2_int min2_int max_two min_two max_three min_three max_four min_four
set_option linter.unusedVariables false
set_option linter.unusedSimpArgs false
theorem mMost_more (n nl : Nat) (y no : Int) : mMost n (nl : Int) y no ≤ mMost n ((nl + 1 : Nat) : Int) y no := by
  unfold mMost
  by_cases hn : n < 19
  · have h : n = 0 ∨ n = 1 ∨ n = 2 ∨ n = 3 ∨ n = 4 ∨ n = 5 ∨ n = 6 ∨ n = 7 ∨ n = 8 ∨ n = 9 ∨ n = 10 ∨ n = 11 ∨ n = 12 ∨ n = 13 ∨ n = 14 ∨ n = 15 ∨ n = 16 ∨ n = 17 ∨ n = 18 := by omega
    rcases h with rfl | rfl | rfl | rfl | rfl | rfl | rfl | rfl | rfl | rfl | rfl | rfl | rfl | rfl | rfl | rfl | rfl | rfl | rfl <;> simp <;> omega
  · rw [List.getD_eq_getElem?_getD, List.getElem?_eq_none (by simp; omega), List.getD_eq_getElem?_getD, List.getElem?_eq_none (by simp; omega)]
    exact Int.le_refl _
theorem opOkB_more {n : Nat} {y : Int} {m : Nat} {k a : Int} (h : opOkB n y m k a = true) : opOkB (n + 1) y m k a = true := by
  unfold opOkB at h ⊢
  split
  · next hk =>
    rw [if_pos hk] at h
    split
    · next hg => rw [if_pos hg] at h; exact h
    · next hg =>
      rw [if_neg hg] at h
      have h1 := of_decide_eq_true h
      have h2 := mMost_more k.toNat n y m
      exact decide_eq_true ⟨h1.1, by omega⟩
  · next hk => rw [if_neg hk] at h; exact h
theorem methodBadB_more {n : Nat} {m : S_impl_Method} (h : methodBadB n m = false) : methodBadB (n + 1) m = false := by
  unfold methodBadB at h ⊢
  split
  · next hc =>
    rw [if_pos hc] at h
    rw [List.any_eq_false] at h ⊢
    intro op hop
    have h2 := h op hop
    simp only [Bool.not_eq_true, Bool.not_eq_false'] at h2 ⊢
    exact opOkB_more h2
  · next hc => rw [if_neg hc] at h; exact h
theorem progOkB_snoc {l : List S_impl_Method} (h : progOkB l = true) : progOkB (l ++ [(⟨0, 0, []⟩ : S_impl_Method)]) = decide (l.length < 4) := by
  unfold progOkB at h
  split at h
  · next hc =>
    have h2 : l.any (methodBadB l.length) = false := by simpa using h
    rw [List.any_eq_false] at h2
    have hrd : (rd_impl_Method (l ++ [(⟨0, 0, []⟩ : S_impl_Method)]) 0).f0 = 0 := by
      rw [show rd_impl_Method (l ++ [(⟨0, 0, []⟩ : S_impl_Method)]) 0 = rd_impl_Method l 0 from ?_]
      · exact hc.2.2
      · show (l ++ [(⟨0, 0, []⟩ : S_impl_Method)]).getD (0 : Int).toNat z_impl_Method = l.getD (0 : Int).toNat z_impl_Method
        rw [List.getD_eq_getElem?_getD, List.getD_eq_getElem?_getD, List.getElem?_append_left (show (0 : Int).toNat < l.length by have := hc.1; simp only [Int.toNat_zero]; omega)]
    have hlen : (l ++ [(⟨0, 0, []⟩ : S_impl_Method)]).length = l.length + 1 := by simp
    unfold progOkB
    rw [hlen, hrd]
    by_cases h4 : l.length < 4
    · rw [if_pos ⟨by omega, by omega, rfl⟩, decide_eq_true h4]
      have : (l ++ [(⟨0, 0, []⟩ : S_impl_Method)]).any (methodBadB (l.length + 1)) = false := by
        rw [List.any_eq_false]
        intro m hm
        rcases List.mem_append.1 hm with hm | hm
        · have h3 := h2 m hm
          rw [Bool.not_eq_true] at h3 ⊢
          exact methodBadB_more h3
        · rw [List.mem_singleton.1 hm, Bool.not_eq_true]
          rfl
      rw [this]
      rfl
    · rw [if_neg (by omega), decide_eq_false h4]
  · cases h
theorem specProgOk_any (A : Option Addr) (c : Nat) (l : List S_impl_Method) (w : World) (hr : Kd.C k_impl_Method w A l.length l) (hc : l.length ≤ c) (hl : fewI l) (b : Bool) (hb : progOkB l = b) :
    Calls Try.prog 26 #[.agg #[.slice A l.length c]] w fun e w' => e = .returned (.bool b) ∧ Below w.heap.size w w' := by
  obtain ⟨n, hn⟩ := (specProgOk_tells l hl).rounds
  rw [hb] at hn
  exact spec_ProgOk.calls n A c l _ w hr hc hn
theorem implProgOk_any (A : Option Addr) (c : Nat) (l : List S_impl_Method) (w : World) (hr : Kd.C k_impl_Method w A l.length l) (hc : l.length ≤ c) (b : Bool) (hb : progOkB l = b) :
    Calls Try.prog 27 #[.agg #[.slice A l.length c]] w fun e w' => e = .returned (.bool b) ∧ Below w.heap.size w w' :=
  impl_ProgOk.calls A c l _ w hr hc (by rw [← hb]; rfl)
theorem implProgOk_n (A : Option Addr) (c n : Nat) (l : List S_impl_Method) (hn : l.length = n) (w : World) (hr : Kd.C k_impl_Method w A l.length l) (hc : l.length ≤ c) (b : Bool) (hb : progOkB l = b) :
    Calls Try.prog 27 #[.agg #[.slice A n c]] w fun e w' => e = .returned (.bool b) ∧ Below w.heap.size w w' := by
  subst hn
  exact implProgOk_any A c l w hr hc b hb
theorem drawn_few {lo hi : Nat} {A : Option Addr} {c : Nat} {l : List S_impl_Method} {w : World} (h : DrawnR lo hi A c l w) : fewI l := ⟨by have := h.few; omega, fun m hm => by have := h.ops m hm; omega⟩
theorem own_ne {v : Value} {n m : Nat} (h : ∃ b, v.ownBlock = some b ∧ m ≤ b) (hn : n < m) : some n ≠ v.ownBlock := by
  obtain ⟨b, hb, hge⟩ := h
  rw [hb]
  intro he
  injection he with he
  omega
theorem own_ne2 {v v' : Value} {n m : Nat} (hat : v'.ownBlock = v.ownBlock ∨ ∃ b, v'.ownBlock = some b ∧ m ≤ b) (h : some n ≠ v.ownBlock) (hn : n < m) : some n ≠ v'.ownBlock := by
  rcases hat with hat | hat
  · rw [hat]; exact h
  · exact own_ne hat hn
set_option maxHeartbeats 4000000 in
set_option maxRecDepth 100000 in
theorem law_FnProgMore (A0 : Option Addr) (c0 : Nat) (l0 : List Int) (w : World) (hr0 : Kd.C (Kd.int .u8) w A0 l0.length l0) (hc0 : l0.length ≤ c0) (hb : ∀ x, x ∈ l0 → 0 ≤ x ∧ x ≤ 255) :
    Calls Try.prog 8 #[.slice A0 l0.length c0] w fun e w' => e = .returned (.bool true) ∧ Below w.heap.size w w' := by
  have HR := Aside0.mk hr0
  have HB := Aside0.mk hb
  have hm := Kd.C_max hr0
  clear hr0 hb
  by_cases hl : (1048576 : Int) < (l0.length : Int)
  · go_enter Try.func8, Try.ntmps8
    go_wp2
    go_ret
    exact ⟨rfl, Below.refl _ _⟩
  · go_enter Try.func8, Try.ntmps8
    go_upto_region 4 with (go_at_call 29; refine (drawProgOk_any A0 c0 l0 _ HR.out hc0 (by omega) HB.out).mono ?_; rintro e W1 ⟨A, c, l, rfl, hD, hB1⟩; have B1 := Aside0.mk (below_alloc hB1 (.cells #[.slice A l.length c] 46)); have D1 := Aside0.mk (hD.alloc (Nat.le_refl _) (.cells #[.slice A l.length c] 46)); clear hD hB1)
    have b3 := heap_alloc_new W1 (.cells #[.slice A l.length c] 46)
    have hsz : W1.heap.size < (W1.alloc (.cells #[.slice A l.length c] 46)).heap.size := by simp
    have hs0 := B1.out.size
    generalize (W1.alloc (.cells #[.slice A l.length c] 46)) = W at *
    have z3 : W.cell? ⟨W1.heap.size, 0, none⟩ = some (.slice A l.length c) := (blk_cell b3 0).trans rfl
    have K3 := Aside0.mk b3
    clear b3
    have hfl := Aside0.mk (drawn_few D1.out)
    have hfew := D1.out.few
    cases hok : progOkB l with
    | false =>
      go_upto_region 5 with (go_at_call 27; refine (implProgOk_any A c l _ D1.out.now D1.out.cap _ hok).mono ?_; rintro e W2 ⟨rfl, hB2⟩; have y3 := pw_cell_below hB2 z3; have D2 := Aside0.mk (D1.out.move (w1 := W2) (Nat.le_refl _) (Nat.le_refl _) (fun i _ h => hB2.block i (by omega))); have B2 := Aside0.mk (below_then B1.out B1.out.size hB2); have h5 : W1.heap.size < W2.heap.size := Nat.lt_of_lt_of_le hsz hB2.size; clear hB2 z3)
      go_upto_region 6 with (go_at_call 26; refine (specProgOk_any A c l _ D2.out.now D2.out.cap hfl.out _ hok).mono ?_; rintro e W3 ⟨rfl, hB3⟩; have x3 := pw_cell_below hB3 y3; have D3 := Aside0.mk (D2.out.move (w1 := W3) (Nat.le_refl _) (Nat.le_refl _) (fun i _ h => hB3.block i (by omega))); have B3 := Aside0.mk (below_then B2.out B2.out.size hB3); have h6 : W1.heap.size < W3.heap.size := Nat.lt_of_lt_of_le h5 hB3.size; clear hB3 y3)
      go_wp2_with (go_at_call 26; refine (specProgOk_any A c l _ D3.out.now D3.out.cap hfl.out _ hok).mono ?_; rintro e W4 ⟨rfl, hB4⟩; have B4 := Aside0.mk (below_then B3.out B3.out.size hB4); clear hB4)
      go_ret
      exact ⟨rfl, B4.out⟩
    | true =>
      have hs := progOkB_snoc hok
      go_upto_region 5 with (go_at_call 27; refine (implProgOk_any A c l _ D1.out.now D1.out.cap _ hok).mono ?_; rintro e W2 ⟨rfl, hB2⟩; have y3 := pw_cell_below hB2 z3; have Y3 := Aside0.mk ((hB2.block _ hsz).trans K3.out); have D2 := Aside0.mk (D1.out.move (w1 := W2) (Nat.le_refl _) (Nat.le_refl _) (fun i _ h => hB2.block i (by omega))); have B2 := Aside0.mk (below_then B1.out B1.out.size hB2); have h5 : W1.heap.size < W2.heap.size := Nat.lt_of_lt_of_le hsz hB2.size; clear hB2 z3)
      go_upto_region 7 with (go_at_call 26; refine (specProgOk_any A c l _ D2.out.now D2.out.cap hfl.out _ hok).mono ?_; rintro e W3 ⟨rfl, hB3⟩; have z5 := pw_cell_below hB3 y3; have x3 := Aside0.mk ((hB3.block _ h5).trans Y3.out); have D3 := Aside0.mk (D2.out.move (w1 := W3) (Nat.le_refl _) (Nat.le_refl _) (fun i _ h => hB3.block i (by omega))); have B3 := Aside0.mk (below_then B2.out B2.out.size hB3); have h6 : W1.heap.size < W3.heap.size := Nat.lt_of_lt_of_le h5 hB3.size; clear hB3 y3)
      have hsz3 := B3.out.size
      have HDF : Aside0 (∀ W_ : World, (∀ k, w.heap.size ≤ k → k < W1.heap.size → W_.heap[k]? = W3.heap[k]?) → Kd.C k_impl_Method W_ A l.length l) := Aside0.mk D3.out.held
      go_upto_region 8 with (first | ((with_reducible refine gate_dst (N := 25) rfl ?_); refine Kd.N_lit k_impl_Method w.heap.size 59 ?hg (N' := 25) ?hd (xs := ([] : List S_impl_Method)) (inner := []) (w0 := w) (ok := fun k => w.heap.size ≤ k ∧ k ≠ W1.heap.size) (okp := fun _ => False) ?hr ?hp (fun _ hk => hk.elim) ⟨hsz3, by omega⟩ B3.out hsz3 (by simp) ?_; (case hd => rfl); (case hg => rfl); (case hr => first | (go_simp; done) | (go_simp; rfl)); (case hp => exact (Reps.none _ _)); intro v1 W4 ho hb4 hg_ hat; have x4 := blk_grown x3.out hg_ (by simp); have hs4 := hg_.size; have N4 := Aside0.mk ho; have B4 := Aside0.mk hb4; have A4 := Aside0.mk hat; have F4 : Aside0 (Kd.F k_impl_Method W4 (fun k => w.heap.size ≤ k ∧ k < W1.heap.size) A l.length l) := Aside0.mk (fun W_ hW => HDF.out W_ (fun k h1 h2 => (hW k ⟨h1, h2⟩ (by omega)).trans (hg_.block k (by omega) (by simp)))); have z4 : W4.cell? ⟨W1.heap.size, 0, none⟩ = some (.slice A l.length c) := (blk_cell x4 0).trans rfl; have X4 := Aside0.mk x4; clear ho hb4 hg_ hat x4) | ((with_reducible refine gate_builtin (b := .append) (xs := #[.tmp 25, .tmp 27]) rfl ?_); at_builtin; refine Kd.N_append_rows k_impl_Method (w0 := w) w.heap.size rfl (.tmp 25) (.tmp 27) 44 59 (.agg #[.int .i64 0, .int .i64 0, .slice none 0 0]) 40 rfl Try.underlying44 info59 rfl (by decide) (by omega) v1 [] l A _ c (fun k => w.heap.size ≤ k ∧ k ≠ W1.heap.size) (fun k => w.heap.size ≤ k ∧ k < W1.heap.size) rfl rfl N4.out F4.out ?aK ?aF B4.out (by omega) (by simp only [List.length_nil]; omega) ?_; (case aK => intro k hk; obtain ⟨b, hb, hge⟩ := A4.out; exact ⟨⟨hk.1, by omega⟩, by rw [hb]; intro he; injection he with he; omega⟩); (case aF => intro k hk; exact ⟨by omega, by omega⟩); intro v2 W5 ho hb5 hg_ hat; rw [List.nil_append] at ho; have hne1 := own_ne (n := W1.heap.size) A4.out (by omega); have x5 := blk_grown X4.out hg_ hne1; have hs5 := hg_.size; have N5 := Aside0.mk ho; have B5 := Aside0.mk hb5; have hne2 := own_ne2 hat hne1 (by omega); have X5 := Aside0.mk x5; have H2 := Aside0.mk hne2; clear ho hb5 hg_ hat hne1 hne2 x5 z4) | ((with_reducible refine gate_builtin (b := .append) (xs := #[.tmp 28, .tmp 30]) rfl ?_); at_builtin; refine Kd.N_append k_impl_Method (w0 := w) w.heap.size rfl (.tmp 28) (.tmp 30) 44 59 (.agg #[.int .i64 0, .int .i64 0, .slice none 0 0]) 40 rfl Try.underlying44 info59 rfl (by decide) (by omega) v2 l ⟨0, 0, []⟩ [.int .i64 0, .int .i64 0, .slice none 0 0] (fun k => w.heap.size ≤ k ∧ k ≠ W1.heap.size) (fun _ => False) rfl rfl (k_impl_Method_mkF _ _ (⟨0, 0, []⟩ : S_impl_Method) (Nat.le_refl _) (Kd.F_nil _ _ _)) (fun _ hk => hk.elim) ?aF N5.out B5.out (by omega) (by omega) ?_; (case aF => intro k hk; exact ⟨by omega, by omega⟩); intro v3 W6 ho hb6 hg_ hat; obtain ⟨A3, c3, rfl, hc3, hC3⟩ := Kd.N_reads ho; have x6 := blk_grown X5.out hg_ H2.out; have hs6 := hg_.size; have C6 := Aside0.mk (Kd.C_alloc hC3 (.cells #[.slice A3 (l.length + 1) c3] 46)); have B6 := Aside0.mk (below_alloc hb6 (.cells #[.slice A3 (l.length + 1) c3] 46)); have X6 := Aside0.mk x6; clear ho hb6 hg_ hat hC3 x6))
      have b7 := heap_alloc_new W6 (.cells #[.slice A3 (l.length + 1) c3] 46)
      have b3' : (W6.alloc (.cells #[.slice A3 (l.length + 1) c3] 46)).heap[W1.heap.size]? = _ := (Below.heap_alloc _ _ _ (by omega)).trans X6.out
      have hs7 := B6.out.size
      generalize (W6.alloc (.cells #[.slice A3 (l.length + 1) c3] 46)) = W7 at *
      have y1 : W7.cell? ⟨W1.heap.size, 0, none⟩ = some (.slice A l.length c) := (blk_cell b3' 0).trans rfl
      have y2 : W7.cell? ⟨W6.heap.size, 0, none⟩ = some (.slice A3 (l.length + 1) c3) := (blk_cell b7 0).trans rfl
      by_cases h4 : (l.length : Int) < 4
      · have hs' := hs.trans (decide_eq_true (show l.length < 4 by omega))
        have HP := Aside0.mk hs'
        clear b7 b3' hs hs' hok hsz hs0 h5 h6 hsz3 hs4 hs5 hs6
        have tok1 : True := trivial
        go_region_held3 (fun W' : World => W'.cell? ⟨W1.heap.size, 0, none⟩ = some (.slice A l.length c) ∧ W'.cell? ⟨W6.heap.size, 0, none⟩ = some (.slice A3 (l.length + 1) c3)) (go_keep) ((first | (go_at_call 27; have _t := tok1; clear _t tok1; refine (implProgOk_n A3 c3 (l.length + 1) (l ++ [(⟨0, 0, []⟩ : S_impl_Method)]) (by simp) _ (Kd.C_drew C6.out) hc3 _ HP.out).mono ?_; rintro e W8 ⟨rfl, hB8⟩; have y8 := pw_cell_below hB8 y1; have yq := pw_cell_below hB8 y2; have B8 := Aside0.mk (below_then (below_drew B6.out) hs7 hB8); clear hB8) | (go_at_call 27; refine (implProgOk_any none 0 [] _ (Kd.C_nil _ _) (Nat.le_refl _) false rfl).mono ?_; rintro e W9 ⟨rfl, hB9⟩; have x8 := pw_cell_below hB9 y8; have xq := pw_cell_below hB9 yq; have B9 := Aside0.mk (below_then B8.out B8.out.size hB9); clear hB9)))
        go_wp2
        go_ret
        exact ⟨rfl, B9.out⟩
      · have hs' := hs.trans (decide_eq_false (show ¬ l.length < 4 by omega))
        have HP := Aside0.mk hs'
        clear b7 b3' hs hs' hok hsz hs0 h5 h6 hsz3 hs4 hs5 hs6
        have tok1 : True := trivial
        go_region_held3 (fun W' : World => W'.cell? ⟨W1.heap.size, 0, none⟩ = some (.slice A l.length c) ∧ W'.cell? ⟨W6.heap.size, 0, none⟩ = some (.slice A3 (l.length + 1) c3)) (go_keep) ((first | (go_at_call 27; have _t := tok1; clear _t tok1; refine (implProgOk_n A3 c3 (l.length + 1) (l ++ [(⟨0, 0, []⟩ : S_impl_Method)]) (by simp) _ (Kd.C_drew C6.out) hc3 _ HP.out).mono ?_; rintro e W8 ⟨rfl, hB8⟩; have y8 := pw_cell_below hB8 y1; have yq := pw_cell_below hB8 y2; have B8 := Aside0.mk (below_then (below_drew B6.out) hs7 hB8); clear hB8) | (go_at_call 27; refine (implProgOk_any none 0 [] _ (Kd.C_nil _ _) (Nat.le_refl _) false rfl).mono ?_; rintro e W9 ⟨rfl, hB9⟩; have x8 := pw_cell_below hB9 y8; have xq := pw_cell_below hB9 yq; have B9 := Aside0.mk (below_then B8.out B8.out.size hB9); clear hB9)))
        go_wp2
        go_ret
        exact ⟨rfl, B9.out⟩
end Go.Proofs.Ytcllkemhlhbdgaa.G
