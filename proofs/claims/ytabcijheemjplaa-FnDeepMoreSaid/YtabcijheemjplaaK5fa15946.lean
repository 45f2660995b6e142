import Derived.Test.YtabcijheemjplaaK6ca9bb5a
import Derived.Test.YtabcijheemjplaaK0afb331e
import Derived.Shelf.Abstract
import Derived.Test.YtabcijheemjplaaK5baa9880
import Derived.Deep.Cut
import Derived.Deep.DeepCutAuto
import Derived.Deep.RegionHeld3
namespace Go.Proofs.Ytabcijheemjplaa.G
open Go.RowKit Go.Proofs.YtabcijheemjplaaW.PrintWords Go.Proofs.YtabcijheemjplaaW.PrintLast Go.Proofs.YtabcijheemjplaaW.PrintMore
attribute [local go_sem] QaQ QaR Qa3 Qa4 QaJ QaK QaS QaT
set_option linter.unusedVariables false
set_option linter.unusedSimpArgs false
structure Qce (w wr : World) (g : Nat) (A : Option Addr) (n c : Nat) (xs : List Qae) (v : Value) (fp : List Nat) : Prop where
 b3 : wr.heap[w.heap.size]? = some (.cells #[.slice A n c] 25 (0, 0))
 b4 : wr.heap[w.heap.size + 1]? = some (.cells #[.slice none 0 0] 25 (0, 0))
 b5 : wr.heap[w.heap.size + 1 + 1]? = some (.cells #[v] 25 (0, 0))
 row : QbF.Row 34 wr v xs fp
 nd : fp.Nodup
 lo : ∀ k, k ∈ fp → w.heap.size + 1 + 1 < k
 bel : Below w.heap.size w wr
theorem Qce.mid {w wr w1 : World} {g : Nat} {A : Option Addr} {n c : Nat} {xs : List Qae} {v : Value} {fp : List Nat} (_h : Qce w wr g A n c xs v fp) {o1 : Obj} {t : Nat}
 (hg : ((wr.alloc o1).alloc (.cells #[] t)).grownBy w1 (some (wr.heap.size + 1))) : w1.heap[wr.heap.size]? = some o1 ∧ (∀ k, k < wr.heap.size → w1.heap[k]? = wr.heap[k]?) ∧ wr.heap.size + 1 < w1.heap.size := by
 have hs := hg.size
 simp only [World.size_alloc] at hs
 refine ⟨?_, fun k hk => ?_, by omega⟩
 · rw [hg.block _ (by simp only [World.size_alloc]; omega) (by simp)]
   exact (Below.heap_alloc _ _ _ (by simp)).trans (by simpa using heap_alloc_new wr o1)
 · rw [hg.block _ (by simp only [World.size_alloc]; omega) (by simp; omega)]
   exact (Below.heap_alloc _ _ _ (by simp only [World.size_alloc]; omega)).trans (Below.heap_alloc _ _ _ hk)
theorem Qce.pre {w wr w1 : World} {g : Nat} {A : Option Addr} {n c : Nat} {xs : List Qae} {v : Value} {fp : List Nat} (BI : Qce w wr g A n c xs v fp) {y : Qae} {o1 : Obj} {t : Nat} {v1 : Value} {fp1 : List Nat}
 (h1 : ∀ k, k ∈ fp1 → k ∈ [wr.heap.size + 1] ∨ ((wr.alloc o1).alloc (.cells #[] t)).heap.size ≤ k) (h2 : ∀ k, k < wr.heap.size → w1.heap[k]? = wr.heap[k]?) (hb : Below w.heap.size w w1) (hn : fp1.Nodup)
 (hr : od_Op.Row 83 w1 v1 y.f2 fp1) (u : Value) :
 QbF.Row 34 (w1.setCell ⟨wr.heap.size, 2, none⟩ u) v xs fp ∧ QbF.O (w1.setCell ⟨wr.heap.size, 2, none⟩ u) [.int .i64 y.f0, .int .i64 y.f1, v1] y fp1 ∧ (fp ++ fp1).Nodup ∧ (∀ k, k ∈ fp → w.heap.size ≤ k) ∧ Below w.heap.size w (w1.setCell ⟨wr.heap.size, 2, none⟩ u) ∧ ∀ k, k ∈ fp1 → wr.heap.size < k := by
 have h3 : ∀ k, k ∈ fp1 → wr.heap.size < k := by
  intro k hk
  have := h1 k hk
  simp only [List.mem_singleton, World.size_alloc] at this
  omega
 refine ⟨Od.row_move (fun k hk => (Qa1 (Nat.ne_of_lt (Od.row_lt BI.row k hk))).trans (h2 k (Od.row_lt BI.row k hk))) BI.row, QbS (Od.row_move (fun k hk => Qa1 (p := ⟨_, _, none⟩) (Nat.ne_of_gt (h3 k hk))) hr), ?_, fun k hk => by have := BI.lo k hk; omega, hb.setCell BI.bel.size u, h3⟩
 rw [List.nodup_append]
 refine ⟨BI.nd, hn, fun k hk k' hk' e => ?_⟩
 subst e
 have := Od.row_lt BI.row k hk
 have := h3 k hk'
 omega
theorem Qce.post {w wr w1 w3 : World} {g : Nat} {A : Option Addr} {n c : Nat} {xs : List Qae} {v v3 u : Value} {fp fp1 fp3 : List Nat} (BI : Qce w wr g A n c xs v fp) {y : Qae}
 (h2 : ∀ k, k < wr.heap.size → w1.heap[k]? = wr.heap[k]?) (h1 : ∀ k, k ∈ fp1 → wr.heap.size < k) (hs : wr.heap.size + 1 < w1.heap.size)
 (hr : QbF.Row 34 w3 v3 (xs ++ [y]) fp3) (hn : fp3.Nodup) (hl : ∀ k, k ∈ fp3 → k ∈ fp ∨ k ∈ fp1 ∨ (w1.setCell ⟨wr.heap.size, 2, none⟩ u).heap.size ≤ k)
 (hb : Below w.heap.size w w3) (hg : (w1.setCell ⟨wr.heap.size, 2, none⟩ u).grownBy w3 v.ownBlock) :
 w3.heap[w.heap.size + 1 + 1]? = some (.cells #[v] 25 (0, 0)) ∧ Qce w (w3.setCell ⟨w.heap.size + 1 + 1, 0, none⟩ v3) g A n c (xs ++ [y]) v3 fp3 := by
 have hlt5 := Qbr BI.b5
 have old : ∀ k, k ≤ w.heap.size + 1 + 1 → w3.heap[k]? = wr.heap[k]? := by
  intro k hk
  rw [hg.block k (by rw [World.size_setCell]; omega) (fun e => by have := BI.lo k (Od.row_block BI.row k e.symm); omega), Qa1 (by show k ≠ wr.heap.size; omega)]
  exact h2 k (by omega)
 have h5 := (old _ (Nat.le_refl _)).trans BI.b5
 have hlo : ∀ k, k ∈ fp3 → w.heap.size + 1 + 1 < k := by
  intro k hk
  rcases hl k hk with h | h | h
  · exact BI.lo k h
  · have := h1 k h; omega
  · rw [World.size_setCell] at h; omega
 refine ⟨h5, ⟨?_, ?_, ?_, ?_, hn, hlo, hb.setCell (by show w.heap.size ≤ w.heap.size + 1 + 1; omega) _⟩⟩
 · rw [Qa1 (by show w.heap.size ≠ w.heap.size + 1 + 1; omega)]
   exact (old _ (by omega)).trans BI.b3
 · rw [Qa1 (by show w.heap.size + 1 ≠ w.heap.size + 1 + 1; omega)]
   exact (old _ (by omega)).trans BI.b4
 · simpa using QbV h5 0 v3
 · exact Od.row_move (fun k hk => Qa1 (Nat.ne_of_gt (hlo k hk))) hr
theorem bent_start (w : World) (g : Nat) (A : Option Addr) (n c : Nat) : Qce w (((w.alloc (.cells #[.slice A n c] 25)).alloc (.cells #[.slice none 0 0] 25)).alloc (.cells #[.slice none 0 0] 25)) g A n c [] (.slice none 0 0) [] := by
 refine ⟨?_, ?_, ?_, Od.row_nil _ _ _, List.nodup_nil, fun k hk => absurd hk (by simp), Qal (Qal (Qal (Below.refl _ _) _) _) _⟩
 · exact (Below.heap_alloc _ _ _ (by simp only [World.size_alloc]; omega)).trans ((Below.heap_alloc _ _ _ (by simp only [World.size_alloc]; omega)).trans (heap_alloc_new _ _))
 · exact (Below.heap_alloc _ _ _ (by simp only [World.size_alloc]; omega)).trans (by simpa using heap_alloc_new (w.alloc _) _)
 · simpa using heap_alloc_new ((w.alloc _).alloc _) _
theorem Qb6 (g : Nat) (s : List Int) (p n : Int) (w0 w : World) (hI : Qad w0 w g s p) (hB : Below w0.heap.size w0 w) (hc : QbG s p) (hp : p ≤ 1000000000) :
 Calls Try.prog 55 #[.pointer (some ⟨g, 0, none⟩), .int .i64 n] w fun e w' => ∃ r, e = .returned (.int .i64 r) ∧ (0 ≤ r ∧ (1 ≤ n → r < n)) ∧ Qad w0 w' g s (p + 1) ∧ Below w0.heap.size w0 w' ∧ Qai w w' g none := by
 obtain ⟨r, h1, h2, h3⟩ := pick_tells hc hp n
 exact (Qab.calls 1 g s p n r (p + 1) w0 w hI hB (h1 0)).mono fun e w' ⟨he, h⟩ => ⟨r, he, ⟨h2, h3⟩, h⟩
structure Qbz (w0 w W : World) (g : Nat) (s : List Int) (p : Int) (v : Value) (l : List Qae) (fp : List Nat) : Prop where
 b4 : W.heap[w.heap.size + 1]? = some (.cells #[.slice none 0 0] 25 (0, 0))
 b5 : W.heap[w.heap.size + 1 + 1]? = some (.cells #[v] 25 (0, 0))
 row : QbF.Row 34 W v l fp
 nd : fp.Nodup
 lo : ∀ k, k ∈ fp → w.heap.size + 1 + 1 < k
 st : Qad w0 W g s p
 bel : Below w0.heap.size w0 W
 keep : Qai w W g none
 glt : g < w.heap.size
theorem Qbz.pick {w0 w W W' : World} {g : Nat} {s : List Int} {p p' : Int} {v : Value} {l : List Qae} {fp : List Nat} (h : Qbz w0 w W g s p v l fp) (h1 : Qad w0 W' g s p') (h2 : Below w0.heap.size w0 W') (h3 : Qai W W' g none) : Qbz w0 w W' g s p' v l fp :=
 ⟨h3.blk h.b4 (by have := h.glt; omega) (by simp), h3.blk h.b5 (by have := h.glt; omega) (by simp), Od.row_move (fun k hk => h3.2 k (Od.row_lt h.row k hk) (by have := h.lo k hk; have := h.glt; omega) (by simp)) h.row, h.nd, h.lo, h1, h2, h.keep.trans h3 (.inl rfl), h.glt⟩
theorem Qbz.drew {w0 w W : World} {g : Nat} {s : List Int} {p : Int} {v : Value} {l : List Qae} {fp : List Nat} (h : Qbz w0 w W g s p v l fp) (n : Nat) : Qbz w0 w (W.drewN n) g s p v l fp :=
 h.pick h.st (Qar h.bel n) ⟨Nat.le_refl _, fun _ _ _ _ => rfl⟩
theorem Qce.done {w0 w wr : World} {g : Nat} {A : Option Addr} {n c : Nat} {xs : List Qae} {v : Value} {fp : List Nat} (h : Qce w wr g A n c xs v fp) {s : List Int} {p : Int} (hI : Qad w0 w g s p) (hB : Below w0.heap.size w0 w) : Qbz w0 w wr g s p v xs fp :=
 ⟨h.b4, h.b5, h.row, h.nd, h.lo, hI.below h.bel, Qa_ hB hB.size h.bel, Qai.of_below h.bel g none, hI.lt⟩
theorem Qbz.cells {w0 w W : World} {g : Nat} {s : List Int} {p : Int} {v : Value} {l : List Qae} {fp : List Nat} (h : Qbz w0 w W g s p v l fp) {k : Int} (h0 : 0 ≤ k) (h1 : k < l.length) : ∃ bM cap A2 c2, v = .slice (some ⟨bM, 0, none⟩) l.length cap ∧
 W.cell? ⟨w.heap.size + 1 + 1, 0, none⟩ = some v ∧ W.cell? ⟨bM, k.toNat * 3 + 2, none⟩ = some (.slice A2 (Qaa l k).f2.length c2) ∧ (Qaa l k).f2.length ≤ c2 := by
 have hk : k.toNat < l.length := by omega
 obtain ⟨bM, cap, c, f, rfl, -, hO, hc, -⟩ := Od.row_elem h.row (List.getElem?_eq_getElem hk)
 obtain ⟨v2, rfl, hr⟩ := od_Method_open hO
 obtain ⟨A2, c2, rfl, hl, -⟩ := Od.row_slice hr
 have e : Qaa l k = l[k.toNat] := by
  unfold Qaa
  rw [List.getD_eq_getElem?_getD, List.getElem?_eq_getElem hk]
  rfl
 rw [e]
 exact ⟨bM, cap, A2, c2, rfl, (Qaf h.b5 0).trans rfl, hc 2 _ rfl, hl⟩
def BentPost (w0 w : World) (g : Nat) (s : List Int) (p : Int) (l : List Qae) (e : Ending) (w' : World) : Prop :=
 ∃ A' c' l' p', e = .returned (.agg #[.slice A' l'.length c']) ∧ l'.length ≤ c' ∧ (∀ W_ : World, (∀ k, w.heap.size ≤ k → k < w'.heap.size → W_.heap[k]? = w'.heap[k]?) → Kd.C QaD W_ A' l'.length l') ∧ Qad w0 w' g s p' ∧ Below w0.heap.size w0 w' ∧ Qai w w' g none ∧
  (l'.length ≤ l.length + 3 ∧ (∀ m, m ∈ l' → m.f2.length ≤ 1000) ∧ p ≤ p' ∧ p' ≤ p + 4)
theorem Qbz.done {w0 w W : World} {g : Nat} {s : List Int} {p p' : Int} {v u : Value} {l l' : List Qae} {fp : List Nat} (h : Qbz w0 w W g s p' v l' fp) (k : l'.length ≤ l.length + 3 ∧ (∀ m, m ∈ l' → m.f2.length ≤ 1000) ∧ p ≤ p' ∧ p' ≤ p + 4) :
 BentPost w0 w g s p l (.returned (.agg #[v])) (W.setCell ⟨w.heap.size + 1, 0, none⟩ u) := by
 obtain ⟨A, c, rfl, hc, hC⟩ := Od.row_slice h.row
 have hs := h.keep.1
 have kb : Qai W (W.setCell ⟨w.heap.size + 1, 0, none⟩ u) (w.heap.size + 1) none := (Qai.refl W _ _).set_ 0 u
 have hrow : ∀ W_ : World, (∀ k, w.heap.size ≤ k → k < (W.setCell ⟨w.heap.size + 1, 0, none⟩ u).heap.size → W_.heap[k]? = (W.setCell ⟨w.heap.size + 1, 0, none⟩ u).heap[k]?) → QbF.Row 34 W_ (.slice A l'.length c) l' fp := by
  intro W_ hk
  refine Od.row_move (fun k hk' => ?_) h.row
  have hlt := Od.row_lt h.row k hk'
  have h1 := h.lo k hk'
  rw [hk k (by omega) (by rw [World.size_setCell]; exact hlt)]
  exact Qa1 (by show k ≠ w.heap.size + 1; omega)
 refine ⟨A, c, l', p', rfl, hc, fun W_ hk => ?_, h.st.far (by have := h.glt; show g ≠ w.heap.size + 1; omega) u, h.bel.setCell ?_ u, ?_, k⟩
 · obtain ⟨A2, c2, he, _, hC2⟩ := Od.row_slice (hrow W_ hk)
   injection he with he
   subst he
   exact hC2
 · show w0.heap.size ≤ w.heap.size + 1
   have := h.st.ge
   have := h.glt
   omega
 · exact ⟨Nat.le_trans hs (by rw [World.size_setCell]; exact Nat.le_refl _), fun i hi h1 h2 => (Qa1 (by show i ≠ w.heap.size + 1; omega)).trans (h.keep.2 i hi h1 h2)⟩
theorem Qbz.at_ {w0 w W : World} {g : Nat} {s : List Int} {p : Int} {v : Value} {l l' : List Qae} {fp : List Nat} (h : Qbz w0 w W g s p v l fp) {b j : Nat} {u : Value} (hb : b ∈ fp) (hr : QbF.Row 34 (W.setCell ⟨b, j, none⟩ u) v l' fp) : Qbz w0 w (W.setCell ⟨b, j, none⟩ u) g s p v l' fp := by
 have h1 := h.lo b hb
 have h2 := h.glt
 have h3 := h.st.ge
 exact ⟨(Qa1 (by show w.heap.size + 1 ≠ b; omega)).trans h.b4, (Qa1 (by show w.heap.size + 1 + 1 ≠ b; omega)).trans h.b5, hr, h.nd, h.lo, h.st.far (by show g ≠ b; omega) u, h.bel.setCell (by show w0.heap.size ≤ b; omega) u,
  ⟨Nat.le_trans h.keep.1 (by rw [World.size_setCell]; exact Nat.le_refl _), fun i hi e1 e2 => (Qa1 (by show i ≠ b; omega)).trans (h.keep.2 i hi e1 e2)⟩, h2⟩
theorem rd_Method_get {l : List Qae} {k : Int} (h1 : k.toNat < l.length) : l[k.toNat]? = some (Qaa l k) := by
 unfold Qaa
 rw [List.getD_eq_getElem?_getD, List.getElem?_eq_getElem h1]
 rfl
theorem Qb0 {l : List Qae} {k : Nat} {m : Qae} (hs : ∀ m, m ∈ l → m.f2.length ≤ 1000) (hm : m.f2.length ≤ 1000) : (l.set k m).length = l.length ∧ ∀ m', m' ∈ l.set k m → m'.f2.length ≤ 1000 :=
 ⟨List.length_set, fun m' h => by
  rcases List.mem_or_eq_of_mem_set h with h | h
  · exact hs m' h
  · rw [h]; exact hm⟩
theorem Qbz.elem {w0 w W : World} {g : Nat} {s : List Int} {p : Int} {v : Value} {l : List Qae} {fp : List Nat} (h : Qbz w0 w W g s p v l fp) {k a : Int} (h0 : 0 ≤ k) (h1 : k < l.length) (a0 : 0 ≤ a) (a1 : a < (Qaa l k).f2.length) (hs : ∀ m, m ∈ l → m.f2.length ≤ 1000) :
 ∃ bM cap bO c2, v = .slice (some ⟨bM, 0, none⟩) l.length cap ∧ W.cell? ⟨w.heap.size + 1 + 1, 0, none⟩ = some v ∧ W.cell? ⟨bM, k.toNat * 3 + 2, none⟩ = some (.slice (some ⟨bO, 0, none⟩) (Qaa l k).f2.length c2) ∧ (Qaa l k).f2.length ≤ c2 ∧
  (bM ≠ g ∧ bO ≠ g ∧ bO ≠ bM ∧ bM ≠ bO ∧ bO ≠ w.heap.size + 1 + 1 ∧ bM ≠ w.heap.size + 1 + 1) ∧ (∃ u, W.cell? ⟨bM, k.toNat * 3 + 1, none⟩ = some u) ∧ (∃ u, W.cell? ⟨bM, k.toNat * 3, none⟩ = some u) ∧ (∃ u, W.cell? ⟨bO, a.toNat * 2, none⟩ = some u) ∧ (∃ u, W.cell? ⟨bO, a.toNat * 2 + 1, none⟩ = some u) ∧ (∀ j, W.frozen? ⟨bM, j, none⟩ = false) ∧ (∀ j, W.frozen? ⟨bO, j, none⟩ = false) ∧
  (∀ x1 x2, ∃ l', Qbz w0 w ((W.setCell ⟨bO, a.toNat * 2, none⟩ (.int .i64 x1)).setCell ⟨bO, a.toNat * 2 + 1, none⟩ (.int .i64 x2)) g s p v l' fp ∧ l'.length = l.length ∧ ∀ m, m ∈ l' → m.f2.length ≤ 1000) ∧
  (∀ x, ∃ l', Qbz w0 w (W.setCell ⟨bO, a.toNat * 2 + 1, none⟩ (.int .i64 x)) g s p v l' fp ∧ l'.length = l.length ∧ ∀ m, m ∈ l' → m.f2.length ≤ 1000) ∧
  (∀ x, ∃ l', Qbz w0 w (W.setCell ⟨bM, k.toNat * 3 + 1, none⟩ (.int .i64 x)) g s p v l' fp ∧ l'.length = l.length ∧ ∀ m, m ∈ l' → m.f2.length ≤ 1000) ∧
  (∀ x, ∃ l', Qbz w0 w (W.setCell ⟨bM, k.toNat * 3, none⟩ (.int .i64 x)) g s p v l' fp ∧ l'.length = l.length ∧ ∀ m, m ∈ l' → m.f2.length ≤ 1000) ∧
  ∃ l', Qbz w0 w (W.setCell ⟨bM, k.toNat * 3 + 2, none⟩ (.slice (some ⟨bO, 0, none⟩) a.toNat c2)) g s p v l' fp ∧ l'.length = l.length ∧ ∀ m, m ∈ l' → m.f2.length ≤ 1000 := by
 have hk : k.toNat < l.length := by omega
 have hget := rd_Method_get hk
 generalize Qaa l k = y at *
 have hy : y.f2.length ≤ 1000 := hs y (List.mem_of_getElem? hget)
 have hak : a.toNat < y.f2.length := by omega
 obtain ⟨bM, cap, c, f, rfl, -, hO, hcell, hfr, hsub, hgm, hup⟩ := Od.row_elem h.row hget
 obtain ⟨hgf, hfn, U1, U2, -⟩ := hup h.nd
 obtain ⟨v2, rfl, hr2⟩ := od_Method_open hO
 obtain ⟨bO, c2, co, fo, rfl, hlc, hO2, hcell2, hfr2, hsub2, hgm2, hup2⟩ := Od.row_elem hr2 (List.getElem?_eq_getElem hak)
 obtain ⟨hgf2, -, V1, -, -⟩ := hup2 hfn
 obtain ⟨rfl, rfl⟩ := od_Op_open hO2
 have hbO : bO ∈ fp := hsub bO hgm2
 have inner : ∀ (W' : World) (ops : List Qac), (∀ b, b ≠ bO → W'.heap[b]? = W.heap[b]?) → od_Op.Row 83 W' (.slice (some ⟨bO, 0, none⟩) y.f2.length c2) ops f → ops.length = y.f2.length → QbF.Row 34 W' (.slice (some ⟨bM, 0, none⟩) l.length cap) (l.set k.toNat ⟨y.f0, y.f1, ops⟩) fp :=
  fun W' ops hw hr _ => U2 W' ⟨y.f0, y.f1, ops⟩ (fun b hb hbf => hw b (fun e => hbf (e ▸ hgm2))) (QbS (x := ⟨y.f0, y.f1, ops⟩) hr)
 refine ⟨bM, cap, bO, c2, rfl, (Qaf h.b5 0).trans rfl, hcell 2 _ rfl, hlc, ⟨fun e => by have := h.lo _ hgm; have := h.glt; omega, fun e => by have := h.lo _ hbO; have := h.glt; omega, fun e => hgf (e ▸ hgm2), fun e => hgf (e.symm ▸ hgm2), fun e => by have := h.lo _ hbO; omega, fun e => by have := h.lo _ hgm; omega⟩, ⟨_, hcell 1 _ rfl⟩, ⟨_, hcell 0 _ rfl⟩, ⟨_, hcell2 0 _ rfl⟩, ⟨_, hcell2 1 _ rfl⟩, hfr, hfr2, ?_, ?_, ?_, ?_, ?_⟩
 · intro x1 x2
   have r1 := V1 0 (.int .i64 x1) ⟨x1, y.f2[a.toNat].f1⟩ (by decide) (od_Op_mk W ⟨x1, y.f2[a.toNat].f1⟩)
   obtain ⟨bO', c2', co', fo', e', -, hO2', -, -, -, -, hup2'⟩ := Od.row_elem r1 (k := a.toNat) (x := ⟨x1, y.f2[a.toNat].f1⟩) (by rw [List.getElem?_set_self hak])
   injection e' with e' _ _
   injection e' with e'
   injection e' with e' _ _
   subst e'
   obtain ⟨-, -, V1', -, -⟩ := hup2' hfn
   obtain ⟨rfl, rfl⟩ := od_Op_open hO2'
   have r2 := V1' 1 (.int .i64 x2) ⟨x1, x2⟩ (by decide) (od_Op_mk _ ⟨x1, x2⟩)
   obtain ⟨h1', h2'⟩ := Qb0 (k := k.toNat) (m := ⟨y.f0, y.f1, (y.f2.set a.toNat ⟨x1, y.f2[a.toNat].f1⟩).set a.toNat ⟨x1, x2⟩⟩) hs (by simpa using hy)
   have B1 := h.at_ hbO (inner (W.setCell ⟨bO, a.toNat * 2, none⟩ (.int .i64 x1)) _ (fun b hb => Qa1 hb) r1 (by simp))
   exact ⟨_, B1.at_ hbO (inner _ _ (fun b hb => (Qa1 hb).trans (Qa1 hb)) r2 (by simp)), h1', h2'⟩
 · intro x
   have r1 := V1 1 (.int .i64 x) ⟨y.f2[a.toNat].f0, x⟩ (by decide) (od_Op_mk W ⟨y.f2[a.toNat].f0, x⟩)
   obtain ⟨h1', h2'⟩ := Qb0 (k := k.toNat) (m := ⟨y.f0, y.f1, y.f2.set a.toNat ⟨y.f2[a.toNat].f0, x⟩⟩) hs (by simpa using hy)
   exact ⟨_, h.at_ hbO (inner (W.setCell ⟨bO, a.toNat * 2 + 1, none⟩ (.int .i64 x)) _ (fun b hb => Qa1 hb) r1 (by simp)), h1', h2'⟩
 · intro x
   obtain ⟨h1', h2'⟩ := Qb0 (k := k.toNat) (m := ⟨y.f0, x, y.f2⟩) hs hy
   exact ⟨_, h.at_ hgm (U1 1 (.int .i64 x) ⟨y.f0, x, y.f2⟩ (by decide) (QbS (x := ⟨y.f0, x, y.f2⟩) hr2)), h1', h2'⟩
 · intro x
   obtain ⟨h1', h2'⟩ := Qb0 (k := k.toNat) (m := ⟨x, y.f1, y.f2⟩) hs hy
   exact ⟨_, h.at_ hgm (U1 0 (.int .i64 x) ⟨x, y.f1, y.f2⟩ (by decide) (QbS (x := ⟨x, y.f1, y.f2⟩) hr2)), h1', h2'⟩
 · obtain ⟨h1', h2'⟩ := Qb0 (k := k.toNat) (m := ⟨y.f0, y.f1, y.f2.take a.toNat⟩) hs (by rw [List.length_take]; omega)
   exact ⟨_, h.at_ hgm (U1 2 (.slice (some ⟨bO, 0, none⟩) a.toNat c2) ⟨y.f0, y.f1, y.f2.take a.toNat⟩ (by decide) (QbS (x := ⟨y.f0, y.f1, y.f2.take a.toNat⟩) (Od.row_take od_Op_flat hr2 (by omega)))), h1', h2'⟩
def Qcl (w0 w W : World) (g : Nat) (s : List Int) (p : Int) (l : List Qae) : Prop :=
 ∃ (v' : Value) (l' : List Qae) (fp' : List Nat) (p' : Int), Aside0 (Qbz w0 w W g s p' v' l' fp') ∧ Aside0 (l'.length ≤ l.length + 3 ∧ (∀ m, m ∈ l' → m.f2.length ≤ 1000) ∧ p ≤ p' ∧ p' ≤ p + 4)
theorem Qbz.fin {w0 w W : World} {g : Nat} {s : List Int} {p p0 : Int} {v : Value} {l : List Qae} {fp : List Nat} (h : Qbz w0 w W g s p v l fp) {k a : Int} (h0 : 0 ≤ k) (h1 : k < l.length) (a0 : 0 ≤ a) (a1 : a < (Qaa l k).f2.length) (hs : ∀ m, m ∈ l → m.f2.length ≤ 1000)
 {bM cap bO n2 c2 n1 : Nat} (hv : v = .slice (some ⟨bM, 0, none⟩) n1 cap) (hc : W.cell? ⟨bM, k.toNat * 3 + 2, none⟩ = some (.slice (some ⟨bO, 0, none⟩) n2 c2)) (hp : p0 ≤ p ∧ p ≤ p0 + 4) :
  (∀ x1 x2, Qcl w0 w ((W.setCell ⟨bO, a.toNat * 2, none⟩ (.int .i64 x1)).setCell ⟨bO, a.toNat * 2 + 1, none⟩ (.int .i64 x2)) g s p0 l) ∧
  (∀ x, Qcl w0 w (W.setCell ⟨bO, a.toNat * 2 + 1, none⟩ (.int .i64 x)) g s p0 l) ∧
  (∀ x, Qcl w0 w (W.setCell ⟨bM, k.toNat * 3 + 1, none⟩ (.int .i64 x)) g s p0 l) ∧
  (∀ x, Qcl w0 w (W.setCell ⟨bM, k.toNat * 3, none⟩ (.int .i64 x)) g s p0 l) ∧
  Qcl w0 w (W.setCell ⟨bM, k.toNat * 3 + 2, none⟩ (.slice (some ⟨bO, 0, none⟩) a.toNat c2)) g s p0 l := by
 obtain ⟨bM', cap', bO', c2', he, -, hc', -, -, -, -, -, -, -, -, q1, q2, q3, q4, q5⟩ := h.elem h0 h1 a0 a1 hs
 rw [hv] at he
 injection he with he _ _
 injection he with he
 injection he with he _ _
 subst he
 rw [hc] at hc'
 injection hc' with he
 injection he with he _ hcc
 injection he with he
 injection he with he _ _
 subst he; subst hcc
 have mk : ∀ {W'}, (∃ l', Qbz w0 w W' g s p v l' fp ∧ l'.length = l.length ∧ ∀ m, m ∈ l' → m.f2.length ≤ 1000) → Qcl w0 w W' g s p0 l :=
  fun ⟨l', h1, h2, h3⟩ => ⟨v, l', fp, p, ⟨h1⟩, ⟨by omega, h3, hp.1, hp.2⟩⟩
 exact ⟨fun x1 x2 => mk (q1 x1 x2), fun x => mk (q2 x), fun x => mk (q3 x), fun x => mk (q4 x), mk q5⟩
theorem Qcl.drew {w0 w W : World} {g : Nat} {s : List Int} {p : Int} {l : List Qae} (h : Qcl w0 w W g s p l) : Qcl w0 w W.drew g s p l := by
 obtain ⟨v', l', fp', p', h1, h2⟩ := h
 exact ⟨v', l', fp', p', ⟨h1.out.pick h1.out.st (QbR h1.out.bel) ⟨Nat.le_refl _, fun _ _ _ _ => rfl⟩⟩, h2⟩
theorem Qbz.grow {w0 w W w1 : World} {g : Nat} {s : List Int} {p : Int} {v v1 : Value} {l l' : List Qae} {fp fp1 : List Nat} (h : Qbz w0 w W g s p v l fp)
 (hr : QbF.Row 34 w1 v1 l' fp1) (hn : fp1.Nodup) (hl : ∀ k, k ∈ fp1 → k ∈ fp ∨ k ∈ ([] : List Nat) ∨ W.heap.size ≤ k) (hb : Below w0.heap.size w0 w1) (hg : W.grownBy w1 v.ownBlock) :
 w1.heap[w.heap.size + 1 + 1]? = some (.cells #[v] 25 (0, 0)) ∧ Qbz w0 w (w1.setCell ⟨w.heap.size + 1 + 1, 0, none⟩ v1) g s p v1 l' fp1 := by
 have hlt5 := Qbr h.b5
 have hg2 := h.glt
 have hg3 := h.st.ge
 have old : ∀ k, k ≤ w.heap.size + 1 + 1 → w1.heap[k]? = W.heap[k]? := fun k hk => hg.block k (by omega) (fun e => by have := h.lo k (Od.row_block h.row k e.symm); omega)
 have h5 := (old _ (Nat.le_refl _)).trans h.b5
 have hlo : ∀ k, k ∈ fp1 → w.heap.size + 1 + 1 < k := by
  intro k hk
  rcases hl k hk with h' | h' | h'
  · exact h.lo k h'
  · simp at h'
  · omega
 refine ⟨h5, ⟨?_, ?_, ?_, hn, hlo, ?_, ?_, ?_, h.glt⟩⟩
 · rw [Qa1 (by show w.heap.size + 1 ≠ w.heap.size + 1 + 1; omega)]
   exact (old _ (by omega)).trans h.b4
 · simpa using QbV h5 0 v1
 · exact Od.row_move (fun k hk => Qa1 (Nat.ne_of_gt (hlo k hk))) hr
 · exact (h.st.grown hg (fun e => by have := h.lo g (Od.row_block h.row g e.symm); omega)).far (by show g ≠ w.heap.size + 1 + 1; omega) v1
 · exact hb.setCell (by show w0.heap.size ≤ w.heap.size + 1 + 1; omega) _
 · exact ⟨Nat.le_trans h.keep.1 (by rw [World.size_setCell]; exact hg.size), fun i hi e1 e2 => by
    rw [Qa1 (by show i ≠ w.heap.size + 1 + 1; omega), old i (by omega)]
    exact h.keep.2 i hi e1 e2⟩
set_option maxHeartbeats 4000000 in
set_option maxRecDepth 100000 in
theorem l71Bent_any (g : Nat) (s : List Int) (p : Int) (A : Option Addr) (c : Nat) (l : List Qae) (w0 w : World) (hI : Qad w0 w g s p) (hB : Below w0.heap.size w0 w) (hc : QbG s p) (hp : p ≤ 900000000)
 (hr : Kd.C QaD w A l.length l) (hl : l.length ≤ 1000) (hl1 : 1 ≤ l.length) (hops : ∀ m, m ∈ l → 1 ≤ m.f2.length ∧ m.f2.length ≤ 1000) :
 Calls Try.prog 56 #[.pointer (some ⟨g, 0, none⟩), .agg #[.slice A l.length c]] w fun e w' => BentPost w0 w g s p l e w' := by
 go_enter Try.func56, Try.ntmps56
 go_wp2
 go_loopg [6] l.length (fun gg s6 wr => ∃ (i : Nat) (v : Value) (fp : List Nat), i ≤ l.length ∧ l.length - i ≤ gg ∧ s6 = .int .i64 i ∧ Aside0 (Qce w wr g A l.length c (l.take i) v fp))
 case atStart =>
  refine ⟨0, .slice none 0 0, [], Nat.zero_le _, by omega, rfl, ⟨?_⟩⟩
  exact bent_start _ _ _ _ _
 case round =>
  obtain ⟨i, v, fp, hi, hg, rfl, BI⟩ := hrel
  by_cases hlt : i < l.length
  · have hltz : (i : Int) < (l.length : Int) := by omega
    obtain ⟨ad, A2, c2, rfl, hx0, hx1, hx2, hl2, hr2⟩ := Qba (Kd.C_below hr BI.out.bel) (i : Int) (by omega) hltz
    simp only [Int.toNat_natCast] at hx0 hx1 hx2 hl2 hr2
    have hy2 : (Qaa l i).f2.length ≤ 1000 := And.right <| hops _ (by unfold Qaa; rw [List.getD_eq_getElem?_getD, Int.toNat_natCast, List.getElem?_eq_getElem hlt]; exact List.getElem_mem hlt)
    generalize hy : Qaa l i = y at *
    have z3 : wr.cell? ⟨w.heap.size, 0, none⟩ = some (.slice (some ad) l.length c) := (Qaf BI.out.b3 0).trans rfl
    have z5 : wr.cell? ⟨w.heap.size + 1 + 1, 0, none⟩ = some v := (Qaf BI.out.b5 0).trans rfl
    have f5 : wr.frozen? ⟨w.heap.size + 1 + 1, 0, none⟩ = false := Qaj BI.out.b5 0
    have hlt5 : w.heap.size + 1 + 1 < wr.heap.size := Qbr BI.out.b5
    have HR2 := Aside0.mk hr2
    have HL2 := Aside0.mk hl2
    have HY := Aside0.mk hy
    clear hr2 hl2 hy
    go_wp2_with (first | ((with_reducible refine QaW (b := .append) (xs := #[.tmp 24, .tmp 26]) rfl ?_); at_builtin; (refine Od.row_cat od_Op od_Op_flat (w0 := w) w.heap.size rfl (.tmp 24) (.tmp 26) 32 83 (.agg #[.int .i64 0, .int .i64 0]) 16 rfl Try.underlying32 QbO rfl (by decide) (by omega) (.slice (some ⟨wr.heap.size + 1, 0, none⟩) 0 0) [] y.f2 A2 _ c2 [wr.heap.size + 1] rfl rfl ?aO ?aR (od_Op_K _) ?aF ?aB ?aS ?aL ?_); (case aO => exact Od.row_empty _ (by simpa using heap_alloc_new (wr.alloc _) _)); (case aR => exact Kd.C_alloc (Kd.C_alloc HR2.out _) _); (case aF => intro k hk; rw [List.mem_singleton.1 hk]; omega); (case aB => exact Qal (Qal BI.out.bel _) _); (case aS => simp only [World.size_alloc]; omega); (case aL => simp only [List.length_nil]; omega); intro v1 w1 fp1 hr1 hn1 hl1 hb1 hg1; rw [List.nil_append] at hr1; obtain ⟨A1, c1, rfl, hk1, -⟩ := Od.row_slice hr1; obtain ⟨hm1, hm2, hm3⟩ := BI.out.mid hg1; have m0 := (Qaf hm1 0).trans rfl; have m1 := (Qaf hm1 1).trans rfl; have m2 := (Qaf hm1 2).trans rfl; have mf := Qaj hm1 2; have y5 : w1.cell? ⟨w.heap.size + 1 + 1, 0, none⟩ = some v := (Qaf ((hm2 _ hlt5).trans BI.out.b5) 0).trans rfl; have PR := Aside0.mk (BI.out.pre (y := y) hl1 hm2 hb1 hn1 hr1 (.slice A1 y.f2.length c1)); have M2 := Aside0.mk hm2; clear hr1 hn1 hl1 hb1 hg1 hm1 hm2 hk1) | ((with_reducible refine QaW (b := .append) (xs := #[.tmp 30, .tmp 32]) rfl ?_); at_builtin; (refine Od.row_append QbF (w0 := w) w.heap.size rfl (.tmp 30) (.tmp 32) 23 34 (.agg #[.int .i64 0, .int .i64 0, .slice none 0 0]) 40 rfl Try.underlying23 info34 rfl (by decide) (by omega) v (l.take i) y [.int .i64 y.f0, .int .i64 y.f1, .slice A1 y.f2.length c1] fp1 fp rfl ?bX ?bO ?bP ?bN ?bF ?bB ?bS ?bL ?_); (case bX => rw [World.size_setCell]; rfl); (case bO => exact PR.out.1); (case bP => exact PR.out.2.1); (case bN => exact PR.out.2.2.1); (case bF => exact PR.out.2.2.2.1); (case bB => exact PR.out.2.2.2.2.1); (case bS => simp only [World.size_setCell]; omega); (case bL => rw [List.length_take]; omega); intro v3 w3 fp3 hr3 hn3 hl3 hb3 hg3; obtain ⟨A3, n3, c3, rfl⟩ := Od.row_form hr3; obtain ⟨hp5, hpB⟩ := BI.out.post M2.out PR.out.2.2.2.2.2 hm3 hr3 hn3 hl3 hb3 hg3; have p5 : w3.cell? ⟨w.heap.size + 1 + 1, 0, none⟩ = some v := (Qaf hp5 0).trans rfl; have pf := Qaj hp5 0; have PB := Aside0.mk hpB; clear hp5 hpB hr3 hn3 hl3 hb3 hg3))
    go_roundg (l.length - (i + 1))
    case measure => omega
    case rel =>
     refine ⟨i + 1, .slice A3 n3 c3, fp3, by omega, Nat.le_refl _, by go_num, ⟨?_⟩⟩
     have e1 : l.take (i + 1) = l.take i ++ [y] := by
      rw [List.take_succ_eq_append_getElem hlt]
      congr 2
      rw [← HY.out]
      unfold Qaa
      rw [List.getD_eq_getElem?_getD, Int.toNat_natCast, List.getElem?_eq_getElem hlt]
      rfl
     rw [e1]
     exact PB.out
  · obtain rfl : i = l.length := by omega
    have BS := Aside0.mk (BI.out.done hI hB)
    rw [List.take_length] at BS
    obtain ⟨bM, cap, A2, c2, rfl, z5, -, -⟩ := BS.out.cells (k := 0) (by omega) (by omega)
    have z3 : wr.cell? ⟨w.heap.size, 0, none⟩ = some (.slice A l.length c) := (Qaf BI.out.b3 0).trans rfl
    have hI' := Aside0.mk hI
    have hB' := Aside0.mk hB
    clear hI hB hr BI hlt
    go_upto_region 9 with (go_at_call 55; refine (Qb6 g s p _ w0 _ BS.out.st BS.out.bel hc (by omega)).mono ?_; rintro e W1 ⟨k, rfl, ⟨hk0, hk1⟩, hS1, hB1, hK1⟩; have hk2 := hk1 (by omega); clear hk1; have BS1 := Aside0.mk (BS.out.pick hS1 hB1 hK1); clear hS1 hB1 hK1)
    obtain ⟨_, _, A2, c2, he, z5, zk, hlk⟩ := BS1.out.cells hk0 hk2
    injection he with he _ he2
    injection he with he
    injection he with he
    subst he; subst he2
    have ho := hops (Qaa l k) (by unfold Qaa; rw [List.getD_eq_getElem?_getD, List.getElem?_eq_getElem (by omega : k.toNat < l.length)]; exact List.getElem_mem _)
    generalize hy : Qaa l k = y at *
    have HY := Aside0.mk hy
    clear hy
    clear z3
    go_upto_region 10 with (go_at_call 55; refine (Qb6 g s (p + 1) _ w0 _ BS1.out.st BS1.out.bel hc.next (by omega)).mono ?_; rintro e W2 ⟨a, rfl, ⟨ha0, ha1⟩, hS1, hB1, hK1⟩; have ha2 := ha1 (by omega); clear ha1; have BS2 := Aside0.mk (BS1.out.pick hS1 hB1 hK1); clear hS1 hB1 hK1)
    go_upto_block 2 with (go_at_call 55; refine (Qb6 g s (p + 1 + 1) _ w0 _ BS2.out.st BS2.out.bel hc.next.next (by omega)).mono ?_; rintro e W3 ⟨q, rfl, ⟨hq0, hq1⟩, hS1, hB1, hK1⟩; have hq2 := hq1 (by omega); clear hq1; have BS3 := Aside0.mk (BS2.out.pick hS1 hB1 hK1); clear hS1 hB1 hK1)
    obtain ⟨_, _, bO, c2, he, z5, zk, hlk, ⟨nM, nO, nOM, nMO, nO5, nM5⟩, ⟨um1, zm1⟩, ⟨um0, zm0⟩, ⟨uo0, zo0⟩, ⟨uo1, zo1⟩, fM, fO, -⟩ := BS3.out.elem hk0 hk2 ha0 (by rw [HY.out]; exact ha2) (fun m hm => (hops m hm).2)
    injection he with he _ he2
    injection he with he
    injection he with he
    subst he; subst he2
    rw [HY.out] at zk hlk
    have fm0 := fM (k.toNat * 3)
    have fm1 := fM (k.toNat * 3 + 1)
    have fm2 := fM (k.toNat * 3 + 2)
    have fo0 := fO (a.toNat * 2)
    have fo1 := fO (a.toNat * 2 + 1)
    clear fM fO
    have n5 : w.heap.size + 1 + 1 ≠ g := fun e => by have := BS3.out.glt; omega
    go_cut [] (fun wc => Aside0 (Qcl w0 w wc g s p l))
    case first =>
     by_cases q0 : q = 0
     · subst q0
       go_wp2
       go_region_held3 (fun W' : World => W'.cell? ⟨w.heap.size + 1 + 1, 0, none⟩ = some (.slice (some ⟨bM, 0, none⟩) l.length cap) ∧ W'.cell? ⟨bM, k.toNat * 3 + 2, none⟩ = some (.slice (some ⟨bO, 0, none⟩) y.f2.length c2)) (go_keep) (((go_at_call 55; refine (Qb6 g s (p + 1 + 1 + 1) _ w0 _ (BS3.out.drew _).st (BS3.out.drew _).bel hc.next.next.next (by omega)).mono ?_; rintro e W4 ⟨x, rfl, ⟨hx0, hx1⟩, hS1, hB1, hK1⟩; have hx2 := hx1 (by omega); clear hx1; have BS4 := Aside0.mk ((BS3.out.drew _).pick hS1 hB1 hK1); have y5 := Qbk hK1 n5 z5; have yk := Qbk hK1 nM zk; have ym1 := Qbk hK1 nM zm1; have ym0 := Qbk hK1 nM zm0; have yo0 := Qbk hK1 nO zo0; have yo1 := Qbk hK1 nO zo1; have gm0 := QbK hK1 nM zm0 fm0; have gm1 := QbK hK1 nM zm0 fm1; have go0 := QbK hK1 nO zo0 fo0; have go1 := QbK hK1 nO zo0 fo1; clear hS1 hB1 hK1)))
       go_wp2
       go_meet
       have FN := BS4.out.fin (p0 := p) hk0 hk2 ha0 (by rw [HY.out]; exact ha2) (fun m hm => (hops m hm).2) rfl yk (by omega)
       exact ⟨FN.1 _ _⟩
     by_cases q1 : q = 1
     · subst q1
       go_wp2
       go_region_held3 (fun W' : World => W'.cell? ⟨w.heap.size + 1 + 1, 0, none⟩ = some (.slice (some ⟨bM, 0, none⟩) l.length cap) ∧ W'.cell? ⟨bM, k.toNat * 3 + 2, none⟩ = some (.slice (some ⟨bO, 0, none⟩) y.f2.length c2)) (go_keep) (((go_at_call 55; refine (Qb6 g s (p + 1 + 1 + 1) _ w0 _ (BS3.out.drew _).st (BS3.out.drew _).bel hc.next.next.next (by omega)).mono ?_; rintro e W4 ⟨x, rfl, ⟨hx0, hx1⟩, hS1, hB1, hK1⟩; have hx2 := hx1 (by omega); clear hx1; have BS4 := Aside0.mk ((BS3.out.drew _).pick hS1 hB1 hK1); have y5 := Qbk hK1 n5 z5; have yk := Qbk hK1 nM zk; have ym1 := Qbk hK1 nM zm1; have ym0 := Qbk hK1 nM zm0; have yo0 := Qbk hK1 nO zo0; have yo1 := Qbk hK1 nO zo1; have gm0 := QbK hK1 nM zm0 fm0; have gm1 := QbK hK1 nM zm0 fm1; have go0 := QbK hK1 nO zo0 fo0; have go1 := QbK hK1 nO zo0 fo1; clear hS1 hB1 hK1)))
       go_wp2
       go_meet
       have FN := BS4.out.fin (p0 := p) hk0 hk2 ha0 (by rw [HY.out]; exact ha2) (fun m hm => (hops m hm).2) rfl yk (by omega)
       exact ⟨FN.2.1 _⟩
     by_cases q2 : q = 2
     · subst q2
       go_wp2
       go_region_held3 (fun W' : World => W'.cell? ⟨w.heap.size + 1 + 1, 0, none⟩ = some (.slice (some ⟨bM, 0, none⟩) l.length cap) ∧ True) (go_keep) (((go_at_call 55; refine (Qb6 g s (p + 1 + 1 + 1) _ w0 _ (BS3.out.drew _).st (BS3.out.drew _).bel hc.next.next.next (by omega)).mono ?_; rintro e W4 ⟨x, rfl, ⟨hx0, hx1⟩, hS1, hB1, hK1⟩; have hx2 := hx1 (by omega); clear hx1; have BS4 := Aside0.mk ((BS3.out.drew _).pick hS1 hB1 hK1); have y5 := Qbk hK1 n5 z5; have yk := Qbk hK1 nM zk; have ym1 := Qbk hK1 nM zm1; have ym0 := Qbk hK1 nM zm0; have yo0 := Qbk hK1 nO zo0; have yo1 := Qbk hK1 nO zo1; have gm0 := QbK hK1 nM zm0 fm0; have gm1 := QbK hK1 nM zm0 fm1; have go0 := QbK hK1 nO zo0 fo0; have go1 := QbK hK1 nO zo0 fo1; clear hS1 hB1 hK1)))
       go_wp2
       go_meet
       have FN := BS4.out.fin (p0 := p) hk0 hk2 ha0 (by rw [HY.out]; exact ha2) (fun m hm => (hops m hm).2) rfl yk (by omega)
       exact ⟨FN.2.2.1 _⟩
     by_cases q3 : q = 3
     · subst q3
       go_wp2
       go_region_held3 (fun W' : World => W'.cell? ⟨w.heap.size + 1 + 1, 0, none⟩ = some (.slice (some ⟨bM, 0, none⟩) l.length cap) ∧ True) (go_keep) (((go_at_call 55; refine (Qb6 g s (p + 1 + 1 + 1) _ w0 _ (BS3.out.drew _).st (BS3.out.drew _).bel hc.next.next.next (by omega)).mono ?_; rintro e W4 ⟨x, rfl, ⟨hx0, hx1⟩, hS1, hB1, hK1⟩; have hx2 := hx1 (by omega); clear hx1; have BS4 := Aside0.mk ((BS3.out.drew _).pick hS1 hB1 hK1); have y5 := Qbk hK1 n5 z5; have yk := Qbk hK1 nM zk; have ym1 := Qbk hK1 nM zm1; have ym0 := Qbk hK1 nM zm0; have yo0 := Qbk hK1 nO zo0; have yo1 := Qbk hK1 nO zo1; have gm0 := QbK hK1 nM zm0 fm0; have gm1 := QbK hK1 nM zm0 fm1; have go0 := QbK hK1 nO zo0 fo0; have go1 := QbK hK1 nO zo0 fo1; clear hS1 hB1 hK1)))
       go_wp2
       go_meet
       have FN := BS4.out.fin (p0 := p) hk0 hk2 ha0 (by rw [HY.out]; exact ha2) (fun m hm => (hops m hm).2) rfl yk (by omega)
       exact ⟨FN.2.2.2.1 _⟩
     by_cases q4 : q = 4
     · subst q4
       go_wp2
       go_region
       go_wp2
       go_meet
       have FN := BS3.out.fin (p0 := p) hk0 hk2 ha0 (by rw [HY.out]; exact ha2) (fun m hm => (hops m hm).2) rfl zk (by omega)
       exact ⟨FN.2.2.2.2.drew⟩
     · have hq5 : q = 5 := by omega
       subst hq5
       go_wp2
       have HOPS := Aside0.mk hops
       clear z5 zk zm0 zm1 zo0 zo1 fm0 fm1 fm2 fo0 fo1 hlk hops
       go_loopg [10] 3 (fun gg s10 W4 => ∃ (j : Nat) (v' : Value) (l' : List Qae) (fp' : List Nat), j ≤ 3 ∧ 3 - j ≤ gg ∧ s10 = .int .i64 j ∧ Aside0 (Qbz w0 w W4 g s (p + 1 + 1 + 1) v' l' fp') ∧ Aside0 (l'.length ≤ l.length + j ∧ ∀ m, m ∈ l' → m.f2.length ≤ 1000))
       case atStart => exact ⟨0, _, l, fp, Nat.zero_le _, by omega, rfl, BS3, ⟨by omega, fun m hm => (HOPS.out m hm).2⟩⟩
       case round =>
        obtain ⟨j, v', l', fp', hj, hgg, rfl, BS4, PR⟩ := hrel
        by_cases hlt : j < 3
        · have hltz : (j : Int) < 3 := by omega
          have y5 := (Qaf BS4.out.b5 0).trans rfl
          have hlt5 := Qbr BS4.out.b5
          have hsz := Nat.le_trans hB'.out.size BS4.out.keep.1
          have hlo' := fun k hk => BS4.out.lo k hk
          have HL := Aside0.mk hlo'
          have HS := Aside0.mk hsz
          clear hlo' hsz
          go_wp2_with (((with_reducible refine QaW (b := .append) (xs := #[.tmp 56, .tmp 58]) rfl ?_); at_builtin; (refine Od.row_append QbF (w0 := w0) w0.heap.size rfl (.tmp 56) (.tmp 58) 23 34 (.agg #[.int .i64 0, .int .i64 0, .slice none 0 0]) 40 rfl Try.underlying23 info34 rfl (by decide) (by omega) v' l' ⟨0, 0, []⟩ [.int .i64 0, .int .i64 0, .slice none 0 0] [] fp' rfl ?bX ?bO ?bP ?bN ?bF ?bB ?bS ?bL ?_); (case bX => rfl); (case bO => exact BS4.out.row); (case bP => exact QbS (x := ⟨0, 0, []⟩) (Od.row_nil _ _ _)); (case bN => rw [List.append_nil]; exact BS4.out.nd); (case bF => exact fun k hk => Nat.le_trans hB'.out.size (Nat.le_of_lt (Nat.lt_trans (by omega) (HL.out k hk)))); (case bB => exact BS4.out.bel); (case bS => exact HS.out); (case bL => have := PR.out.1; omega); intro v3 w3 fp3 hr3 hn3 hl3 hb3 hg3; obtain ⟨A3, n3, c3, rfl⟩ := Od.row_form hr3; obtain ⟨hp5, hpB⟩ := BS4.out.grow hr3 hn3 hl3 hb3 hg3; have p5 := (Qaf hp5 0).trans rfl; have pf := Qaj hp5 0; have PB := Aside0.mk hpB; clear hp5 hpB hr3 hn3 hl3 hb3 hg3))
          go_roundg (3 - (j + 1))
          case measure => omega
          case rel =>
           refine ⟨j + 1, .slice A3 n3 c3, _, fp3, by omega, Nat.le_refl _, by go_num, PB, ⟨?_, ?_⟩⟩
           · rw [List.length_append, List.length_singleton]
             have := PR.out.1
             omega
           · intro m hm
             rcases List.mem_append.1 hm with hm | hm
             · exact PR.out.2 m hm
             · rw [List.mem_singleton.1 hm]
               exact Nat.zero_le _
        · have hltz : ¬ (j : Int) < 3 := by omega
          go_wp2
          go_meet
          exact ⟨⟨v', l', fp', p + 1 + 1 + 1, BS4, ⟨by have := PR.out.1; omega, PR.out.2, by omega, by omega⟩⟩⟩
    case rest =>
     obtain ⟨v', l', fp', p', BS, PR⟩ := hcut.out
     obtain ⟨A', n', c', rfl⟩ := Od.row_form BS.out.row
     have y5 := (Qaf BS.out.b5 0).trans rfl
     have y4 := (Qaf BS.out.b4 0).trans rfl
     have yf := Qaj BS.out.b4 0
     go_wp2
     refine bodyPost_ret (results_cell_row rfl _ _ (w.heap.size + 1) 25 #[.slice A' n' c'] (0, 0) _ rfl (by simpa using QbV BS.out.b4 0 (.slice A' n' c')) Try.underlying25 rfl (by kernel_rfl)) rfl ?_
     exact BS.out.done PR.out
end Go.Proofs.Ytabcijheemjplaa.G
