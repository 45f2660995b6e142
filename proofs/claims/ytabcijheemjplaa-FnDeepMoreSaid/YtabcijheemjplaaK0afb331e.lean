import Derived.Test.YtabcijheemjplaaK6ca9bb5a
import Derived.Shelf.Abstract
namespace Go.Proofs.Ytabcijheemjplaa.G
open Go.RowKit Go.Proofs.YtabcijheemjplaaW.PrintWords Go.Proofs.YtabcijheemjplaaW.PrintLast Go.Proofs.YtabcijheemjplaaW.PrintMore
attribute [local go_sem] QaQ QaR Qa3 Qa4 QaJ QaK QaS QaT
set_option linter.unusedVariables false
set_option linter.unusedSimpArgs false
structure Od (α : Type) where
 kd : Kd α
 O : World → List Value → α → List Nat → Prop
 len : ∀ {w cs x fp}, O w cs x fp → cs.length = kd.sz
 one : ∀ {w cs x fp}, O w cs x fp → ∀ u ∈ cs, u.oneCell' = true
 move : ∀ {w w1 : World} {cs x fp}, (∀ k, k ∈ fp → w1.heap[k]? = w.heap[k]?) → O w cs x fp → O w1 cs x fp
 lt : ∀ {w : World} {cs x fp}, O w cs x fp → ∀ k, k ∈ fp → k < w.heap.size
 toK : ∀ {w cs x fp}, O w cs x fp → kd.K w x cs
inductive Els {α : Type} (R : List Value → α → List Nat → Prop) : List α → List (List Value) → List (List Nat) → Prop where
 | nil : Els R [] [] []
 | cons {x : α} {c : List Value} {f : List Nat} {xs : List α} {cs : List (List Value)} {fs : List (List Nat)} : R c x f → Els R xs cs fs → Els R (x :: xs) (c :: cs) (f :: fs)
namespace Els
variable {α : Type} {R R' : List Value → α → List Nat → Prop} {xs ys : List α} {cs ds : List (List Value)} {fs gs : List (List Nat)}
theorem len_c (h : Els R xs cs fs) : cs.length = xs.length := by
 induction h with
 | nil => rfl
 | cons _ _ ih => simp [ih]
theorem len_f (h : Els R xs cs fs) : fs.length = xs.length := by
 induction h with
 | nil => rfl
 | cons _ _ ih => simp [ih]
theorem append (h : Els R xs cs fs) (k : Els R ys ds gs) : Els R (xs ++ ys) (cs ++ ds) (fs ++ gs) := by
 induction h with
 | nil => exact k
 | cons h1 _ ih => exact .cons h1 ih
theorem snoc (h : Els R xs cs fs) {x : α} {c : List Value} {f : List Nat} (k : R c x f) : Els R (xs ++ [x]) (cs ++ [c]) (fs ++ [f]) := h.append (.cons k .nil)
theorem imp (h : Els R xs cs fs) (k : ∀ c x f, f ∈ fs → R c x f → R' c x f) : Els R' xs cs fs := by
 induction h with
 | nil => exact .nil
 | cons h1 _ ih => exact .cons (k _ _ _ List.mem_cons_self h1) (ih (fun c x f hf hr => k c x f (List.mem_cons_of_mem _ hf) hr))
theorem get (h : Els R xs cs fs) {i : Nat} {x : α} (hi : xs[i]? = some x) : ∃ c f, cs[i]? = some c ∧ fs[i]? = some f ∧ R c x f := by
 induction h generalizing i with
 | nil => simp at hi
 | @cons x' c f _ _ _ h1 _ ih =>
   cases i with
   | zero =>
     simp only [List.getElem?_cons_zero, Option.some.injEq] at hi
     subst hi
     exact ⟨c, f, rfl, rfl, h1⟩
   | succ i =>
     simp only [List.getElem?_cons_succ] at hi ⊢
     exact ih hi
theorem set (h : Els R xs cs fs) (i : Nat) {x : α} {c : List Value} {f : List Nat} (k : R c x f) : Els R (xs.set i x) (cs.set i c) (fs.set i f) := by
 induction h generalizing i with
 | nil => exact .nil
 | cons h1 h2 ih =>
   cases i with
   | zero => exact .cons k h2
   | succ i => exact .cons h1 (ih i)
theorem take (h : Els R xs cs fs) (n : Nat) : Els R (xs.take n) (cs.take n) (fs.take n) := by
 induction h generalizing n with
 | nil => simp; exact .nil
 | cons h1 h2 ih =>
   cases n with
   | zero => exact .nil
   | succ n => exact .cons h1 (ih n)
theorem drop (h : Els R xs cs fs) (n : Nat) : Els R (xs.drop n) (cs.drop n) (fs.drop n) := by
 induction h generalizing n with
 | nil => simp; exact .nil
 | cons h1 h2 ih =>
   cases n with
   | zero => exact .cons h1 h2
   | succ n => exact ih n
theorem flat_len (h : Els R xs cs fs) {sz : Nat} (k : ∀ c x f, R c x f → c.length = sz) : cs.flatten.length = xs.length * sz := by
 induction h with
 | nil => simp
 | cons h1 _ ih => rw [List.flatten_cons, List.length_append, ih, k _ _ _ h1, List.length_cons, Nat.add_mul, Nat.one_mul, Nat.add_comm]
theorem flat_drop (h : Els R xs cs fs) {sz : Nat} (k : ∀ c x f, R c x f → c.length = sz) (i : Nat) {c : List Value} (hc : cs[i]? = some c) : (cs.flatten.drop (i * sz)).take sz = c := by
 induction h generalizing i with
 | nil => simp at hc
 | @cons x' c' f' _ cs' _ h1 h2 ih =>
   cases i with
   | zero =>
     simp only [List.getElem?_cons_zero, Option.some.injEq] at hc
     subst hc
     rw [Nat.zero_mul, List.drop_zero, List.flatten_cons, ← k _ _ _ h1, List.take_left]
   | succ i =>
     rw [List.getElem?_cons_succ] at hc
     rw [List.flatten_cons, Nat.add_mul, Nat.one_mul, Nat.add_comm, ← k _ _ _ h1, ← List.drop_drop, List.drop_left, k _ _ _ h1]
     exact ih i hc
theorem flat_set (h : Els R xs cs fs) {sz : Nat} (k : ∀ c x f, R c x f → c.length = sz) (i : Nat) {c : List Value} (hc : cs[i]? = some c) (j : Nat) (hj : j < sz) (u : Value) : (cs.set i (c.set j u)).flatten = cs.flatten.set (i * sz + j) u := by
 induction h generalizing i with
 | nil => simp at hc
 | @cons x' c' f' _ cs' _ h1 h2 ih =>
   have hl := k _ _ _ h1
   cases i with
   | zero =>
     simp only [List.getElem?_cons_zero, Option.some.injEq] at hc
     subst hc
     rw [List.set_cons_zero, List.flatten_cons, List.flatten_cons, Nat.zero_mul, Nat.zero_add, List.set_append_left _ _ (by omega)]
   | succ i =>
     rw [List.getElem?_cons_succ] at hc
     rw [List.set_cons_succ, List.flatten_cons, List.flatten_cons, ih i hc, List.set_append_right _ _ (by rw [hl, Nat.add_mul]; omega)]
     congr 2
     rw [hl, Nat.add_mul]
     omega
end Els
namespace Od
variable {α β : Type}
def scalar (enc : α → Value) (h1 : ∀ x, (enc x).oneCell' = true) : Od α where
 kd := Kd.scalar enc h1
 O := fun _ cs x fp => cs = [enc x] ∧ fp = []
 len := fun h => by rw [h.1]; rfl
 one := fun h u hu => by
  rw [h.1] at hu
  rw [List.mem_singleton.1 hu]
  exact h1 _
 move := fun _ h => h
 lt := fun h k hk => by rw [h.2] at hk; simp at hk
 toK := fun h => h.1
def Row (d : Od α) (e : Nat) (w : World) (v : Value) (xs : List α) (fp : List Nat) : Prop :=
 ∃ cs fs, w.ownsRow 0 e d.kd.sz v xs.length cs.flatten ∧ Els (d.O w) xs cs fs ∧ fp = v.ownBlock.toList ++ fs.flatten
theorem row_move {d : Od α} {e : Nat} {w w1 : World} {v : Value} {xs : List α} {fp : List Nat} (hm : ∀ k, k ∈ fp → w1.heap[k]? = w.heap[k]?) (h : d.Row e w v xs fp) : d.Row e w1 v xs fp := by
 obtain ⟨cs, fs, ho, he, rfl⟩ := h
 refine ⟨cs, fs, own_move ho (fun k hk => hm k (by simp [hk])), he.imp (fun c x f hf hr => d.move (fun k hk => hm k ?_) hr), rfl⟩
 exact List.mem_append_right _ (List.mem_flatten.2 ⟨f, hf, hk⟩)
theorem row_lt {d : Od α} {e : Nat} {w : World} {v : Value} {xs : List α} {fp : List Nat} (h : d.Row e w v xs fp) : ∀ k, k ∈ fp → k < w.heap.size := by
 obtain ⟨cs, fs, ho, he, rfl⟩ := h
 intro k hk
 rcases List.mem_append.1 hk with hk | hk
 · exact own_lt ho k (by simpa using hk)
 · obtain ⟨f, hf, hk⟩ := List.mem_flatten.1 hk
   obtain ⟨i, hi⟩ := List.getElem?_of_mem hf
   have hl : i < xs.length := by rw [← he.len_f]; exact (List.getElem?_eq_some_iff.1 hi).1
   obtain ⟨c, f', hc, hf', hr⟩ := he.get (List.getElem?_eq_getElem hl)
   rw [hi] at hf'
   injection hf' with hf'
   subst hf'
   exact d.lt hr k hk
theorem row_reps {d : Od α} {w : World} {xs : List α} {cs : List (List Value)} {fs : List (List Nat)} (h : Els (d.O w) xs cs fs) : Qa9 (d.kd.K w) d.kd.sz xs cs.flatten := by
 refine ⟨h.flat_len (fun _ _ _ hr => d.len hr), fun j p hj => ?_⟩
 obtain ⟨c, f, hc, hf, hr⟩ := h.get hj
 rw [h.flat_drop (fun _ _ _ hr => d.len hr) j hc]
 exact d.toK hr
theorem row_slice {d : Od α} {e : Nat} {w : World} {v : Value} {xs : List α} {fp : List Nat} (h : d.Row e w v xs fp) : ∃ A c, v = .slice A xs.length c ∧ xs.length ≤ c ∧ d.kd.C w A xs.length xs := by
 obtain ⟨cs, fs, ho, he, rfl⟩ := h
 obtain ⟨A, c, hv, hr⟩ := own_reads_row ho (row_reps he) rfl
 refine ⟨A, c, hv, ?_, hr⟩
 rcases ho.2 with ⟨rfl, h0⟩ | ⟨g, cap, cur, rfl, _, _, hc, _⟩
 · omega
 · injection hv with _ _ h3
   omega
def slice (e : Nat) (d : Od α) : Od (List α) where
 kd := Kd.slice e d.kd
 O := fun w cs xs fp => ∃ v, cs = [v] ∧ d.Row e w v xs fp
 len := by
  rintro w cs x fp ⟨v, rfl, _⟩
  rfl
 one := by
  rintro w cs x fp ⟨v, rfl, h⟩ u hu
  rw [List.mem_singleton.1 hu]
  obtain ⟨A, c, rfl, _⟩ := row_slice h
  rfl
 move := by
  rintro w w1 cs x fp hm ⟨v, rfl, h⟩
  exact ⟨v, rfl, row_move hm h⟩
 lt := by
  rintro w cs x fp ⟨v, rfl, h⟩
  exact row_lt h
 toK := by
  rintro w cs x fp ⟨v, rfl, h⟩
  obtain ⟨A, c, rfl, hc, hr⟩ := row_slice h
  exact ⟨A, c, rfl, hc, hr⟩
def pair (a : Od α) (b : Od β) : Od (α × β) where
 kd := Kd.pair a.kd b.kd
 O := fun w cs x fp => ∃ c1 c2 f1 f2, cs = c1 ++ c2 ∧ fp = f1 ++ f2 ∧ a.O w c1 x.1 f1 ∧ b.O w c2 x.2 f2
 len := by
  rintro w cs x fp ⟨c1, c2, f1, f2, rfl, rfl, h1, h2⟩
  rw [List.length_append, a.len h1, b.len h2]
  rfl
 one := by
  rintro w cs x fp ⟨c1, c2, f1, f2, rfl, rfl, h1, h2⟩ u hu
  rcases List.mem_append.1 hu with hu | hu
  · exact a.one h1 u hu
  · exact b.one h2 u hu
 move := by
  rintro w w1 cs x fp hm ⟨c1, c2, f1, f2, rfl, rfl, h1, h2⟩
  exact ⟨c1, c2, f1, f2, rfl, rfl, a.move (fun k hk => hm k (List.mem_append_left _ hk)) h1, b.move (fun k hk => hm k (List.mem_append_right _ hk)) h2⟩
 lt := by
  rintro w cs x fp ⟨c1, c2, f1, f2, rfl, rfl, h1, h2⟩ k hk
  rcases List.mem_append.1 hk with hk | hk
  · exact a.lt h1 k hk
  · exact b.lt h2 k hk
 toK := by
  rintro w cs x fp ⟨c1, c2, f1, f2, rfl, rfl, h1, h2⟩
  exact ⟨c1, c2, rfl, a.toK h1, b.toK h2⟩
def iso (d : Od β) (f : α → β) : Od α where
 kd := Kd.iso d.kd f
 O := fun w cs x fp => d.O w cs (f x) fp
 len := fun h => d.len h
 one := fun h => d.one h
 move := fun hm h => d.move hm h
 lt := fun h => d.lt h
 toK := fun h => d.toK h
end Od
end Go.Proofs.Ytabcijheemjplaa.G
namespace Go.Proofs.Ytabcijheemjplaa.G
open Go.RowKit Go.Proofs.YtabcijheemjplaaW.PrintWords Go.Proofs.YtabcijheemjplaaW.PrintLast Go.Proofs.YtabcijheemjplaaW.PrintMore
attribute [local go_sem] QaQ QaR Qa3 Qa4 QaJ QaK QaS QaT
set_option linter.unusedVariables false
set_option linter.unusedSimpArgs false
namespace Od
variable {α : Type}
structure Opened (d : Od α) (e : Nat) (w : World) (g cap : Nat) (cur : Array Value) (xs : List α) (cs : List (List Value)) (fs : List (List Nat)) : Prop where
 blk : w.heap[g]? = some (.cells cur e (0, 0))
 le : xs.length ≤ cap
 max : cap ≤ maxLen
 size : cur.size = cap * d.kd.sz
 take : cur.toList.take (xs.length * d.kd.sz) = cs.flatten
 els : Els (d.O w) xs cs fs
theorem Opened.row {d : Od α} {e : Nat} {w : World} {g cap : Nat} {cur : Array Value} {xs : List α} {cs : List (List Value)} {fs : List (List Nat)} (h : d.Opened e w g cap cur xs cs fs) : d.Row e w (.slice (some ⟨g, 0, none⟩) xs.length cap) xs (g :: fs.flatten) :=
 ⟨cs, fs, ⟨by rw [h.els.flat_len (fun _ _ _ hr => d.len hr)], .inr ⟨g, cap, cur, rfl, Nat.zero_le _, h.blk, h.le, h.max, h.size, h.take⟩⟩, h.els, rfl⟩
theorem row_open {d : Od α} {e : Nat} {w : World} {v : Value} {xs : List α} {fp : List Nat} (h : d.Row e w v xs fp) (hn : 0 < xs.length) : ∃ g cap cur cs fs, v = .slice (some ⟨g, 0, none⟩) xs.length cap ∧ fp = g :: fs.flatten ∧ d.Opened e w g cap cur xs cs fs := by
 obtain ⟨cs, fs, ho, he, rfl⟩ := h
 rcases ho.2 with ⟨rfl, h0⟩ | ⟨g, cap, cur, rfl, _, hb, h1, h2, h3, h4⟩
 · omega
 · exact ⟨g, cap, cur, cs, fs, rfl, rfl, hb, h1, h2, h3, h4, he⟩
theorem row_nil (d : Od α) (e : Nat) (w : World) : d.Row e w (.slice none 0 0) [] [] := ⟨[], [], own_nil _ _ _ _, .nil, rfl⟩
section
variable {d : Od α} {e : Nat} {w w1 : World} {g cap : Nat} {cur : Array Value} {xs : List α} {cs : List (List Value)} {fs : List (List Nat)}
theorem Opened.cell (h : d.Opened e w g cap cur xs cs fs) {i : Nat} {c : List Value} (hc : cs[i]? = some c) {j : Nat} {u : Value} (hu : c[j]? = some u) : w.cell? ⟨g, i * d.kd.sz + j, none⟩ = some u := by
 rw [Qaf h.blk]
 have hi : i < xs.length := by rw [← h.els.len_c]; exact (List.getElem?_eq_some_iff.1 hc).1
 obtain ⟨c', f, hc', _, hr⟩ := h.els.get (List.getElem?_eq_getElem hi)
 rw [hc] at hc'
 injection hc' with hc'
 subst hc'
 have hl := d.len hr
 have hj : j < d.kd.sz := by rw [← hl]; exact (List.getElem?_eq_some_iff.1 hu).1
 have h1 := h.els.flat_drop (fun _ _ _ hr => d.len hr) i hc
 have h2 : (cs.flatten.drop (i * d.kd.sz))[j]? = some u := by
  rw [← hu, ← h1, List.getElem?_take, if_pos hj]
 rw [List.getElem?_drop, ← h.take, List.getElem?_take] at h2
 split at h2
 · rw [← Array.getElem?_toList]; exact h2
 · cases h2
theorem Opened.frozen (h : d.Opened e w g cap cur xs cs fs) (k : Nat) : w.frozen? ⟨g, k, none⟩ = false := Qaj h.blk k
theorem Opened.get (h : d.Opened e w g cap cur xs cs fs) {i : Nat} {x : α} (hi : xs[i]? = some x) : ∃ c f, cs[i]? = some c ∧ fs[i]? = some f ∧ d.O w c x f := h.els.get hi
theorem mem_flat {fs : List (List Nat)} {i : Nat} {f : List Nat} (hf : fs[i]? = some f) {k : Nat} (hk : k ∈ f) : k ∈ fs.flatten := List.mem_flatten.2 ⟨f, List.mem_of_getElem? hf, hk⟩
theorem nodup_flat_set {fs : List (List Nat)} (h : fs.flatten.Nodup) {i : Nat} {f f' : List Nat} (hf : fs[i]? = some f) (hn : f'.Nodup) (hk : ∀ k, k ∈ f' → k ∈ f ∨ k ∉ fs.flatten) : (fs.set i f').flatten.Nodup := by
 induction fs generalizing i with
 | nil => simp at hf
 | cons a fs ih =>
   rw [List.flatten_cons, List.nodup_append] at h
   obtain ⟨h1, h2, h3⟩ := h
   cases i with
   | zero =>
     simp only [List.getElem?_cons_zero, Option.some.injEq] at hf
     subst hf
     rw [List.set_cons_zero, List.flatten_cons, List.nodup_append]
     refine ⟨hn, h2, fun x hx y hy e => ?_⟩
     subst e
     rcases hk x hx with hk | hk
     · exact h3 x hk x hy rfl
     · exact hk (by rw [List.flatten_cons]; exact List.mem_append_right _ hy)
   | succ i =>
     rw [List.getElem?_cons_succ] at hf
     rw [List.set_cons_succ, List.flatten_cons, List.nodup_append]
     refine ⟨h1, ih h2 hf (fun k hk' => ?_), fun x hx y hy e => ?_⟩
     · rcases hk k hk' with h | h
       · exact .inl h
       · exact .inr fun hm => h (by rw [List.flatten_cons]; exact List.mem_append_right _ hm)
     · subst e
       obtain ⟨z, hz, hxz⟩ := List.mem_flatten.1 hy
       rcases List.mem_or_eq_of_mem_set hz with hz | hz
       · exact h3 x hx x (List.mem_flatten.2 ⟨z, hz, hxz⟩) rfl
       · subst hz
         rcases hk x hxz with h | h
         · exact h3 x hx x (mem_flat hf h) rfl
         · exact h (by rw [List.flatten_cons]; exact List.mem_append_left _ hx)
theorem mem_flat_set {fs : List (List Nat)} {i : Nat} {f' : List Nat} {k : Nat} (h : k ∈ (fs.set i f').flatten) : k ∈ fs.flatten ∨ k ∈ f' := by
 obtain ⟨z, hz, hk⟩ := List.mem_flatten.1 h
 rcases List.mem_or_eq_of_mem_set hz with hz | hz
 · exact .inl (List.mem_flatten.2 ⟨z, hz, hk⟩)
 · subst hz
   exact .inr hk
theorem Opened.put (h : d.Opened e w g cap cur xs cs fs) (hn : (g :: fs.flatten).Nodup) {i : Nat} {f : List Nat} (hf : fs[i]? = some f) {cur' : Array Value} {c' : List Value} {x' : α} {f' : List Nat}
 (hb : w1.heap[g]? = some (.cells cur' e (0, 0))) (hs : cur'.size = cur.size) (ht : cur'.toList.take (xs.length * d.kd.sz) = (cs.set i c').flatten)
 (hk : ∀ k, k ∈ fs.flatten → k ∉ f → w1.heap[k]? = w.heap[k]?) (hO : d.O w1 c' x' f') : d.Opened e w1 g cap cur' (xs.set i x') (cs.set i c') (fs.set i f') := by
 refine ⟨hb, by rw [List.length_set]; exact h.le, h.max, hs.trans h.size, by rw [List.length_set]; exact ht, ?_⟩
 have hn' := (List.nodup_cons.1 hn).2
 have key : ∀ (xs : List α) (cs : List (List Value)) (fs : List (List Nat)), Els (d.O w) xs cs fs → fs.flatten.Nodup → ∀ i f, fs[i]? = some f → (∀ k, k ∈ fs.flatten → k ∉ f → w1.heap[k]? = w.heap[k]?) → Els (d.O w1) (xs.set i x') (cs.set i c') (fs.set i f') := by
  intro xs cs fs he
  induction he with
  | nil => intro _ i f hf; simp at hf
  | @cons x c f0 xs cs fs h1 h2 ih =>
    intro hnd i f hf hk
    rw [List.flatten_cons, List.nodup_append] at hnd
    obtain ⟨n1, n2, n3⟩ := hnd
    cases i with
    | zero =>
      simp only [List.getElem?_cons_zero, Option.some.injEq] at hf
      subst hf
      refine .cons hO (h2.imp fun c x f'' hf'' hr => d.move (fun k hk' => hk k ?_ ?_) hr)
      · rw [List.flatten_cons]
        exact List.mem_append_right _ (List.mem_flatten.2 ⟨f'', hf'', hk'⟩)
      · intro hkf
        exact n3 k hkf k (List.mem_flatten.2 ⟨f'', hf'', hk'⟩) rfl
    | succ i =>
      rw [List.getElem?_cons_succ] at hf
      refine .cons (d.move (fun k hk' => hk k ?_ ?_) h1) (ih n2 i f hf fun k hk1 hk2 => hk k (by rw [List.flatten_cons]; exact List.mem_append_right _ hk1) hk2)
      · rw [List.flatten_cons]
        exact List.mem_append_left _ hk'
      · intro hkf
        exact n3 k hk' k (mem_flat hf hkf) rfl
 exact key xs cs fs h.els hn' i f hf hk
theorem take_set (cur : Array Value) (k n : Nat) (u : Value) : (cur.setIfInBounds k u).toList.take n = (cur.toList.take n).set k u := by
 rw [Array.toList_setIfInBounds, List.take_set]
end
end Od
end Go.Proofs.Ytabcijheemjplaa.G
namespace Go.Proofs.Ytabcijheemjplaa.G
open Go.RowKit Go.Proofs.YtabcijheemjplaaW.PrintWords Go.Proofs.YtabcijheemjplaaW.PrintLast Go.Proofs.YtabcijheemjplaaW.PrintMore
attribute [local go_sem] QaQ QaR Qa3 Qa4 QaJ QaK QaS QaT
set_option linter.unusedVariables false
set_option linter.unusedSimpArgs false
theorem Od.row_snoc {α : Type} {d : Od α} {e base : Nat} {W w1 : World} {v v1 : Value} {xs : List α} {p : α} {c : List Value} {f : List Nat} {cs : List (List Value)} {fs : List (List Nat)}
 (ho : W.ownsRow 0 e d.kd.sz v xs.length cs.flatten) (he : Els (d.O W) xs cs fs) (hp : d.O W c p f) (hnd : (v.ownBlock.toList ++ fs.flatten ++ f).Nodup)
 (hown : w1.ownsRow base e d.kd.sz v1 (xs.length + 1) (cs.flatten ++ c)) (hg : W.grownBy w1 v.ownBlock) (hat : v1.ownBlock = v.ownBlock ∨ ∃ b, v1.ownBlock = some b ∧ W.heap.size ≤ b) :
 d.Row e w1 v1 (xs ++ [p]) (v1.ownBlock.toList ++ (fs.flatten ++ f)) ∧ (v1.ownBlock.toList ++ (fs.flatten ++ f)).Nodup ∧ ∀ k, k ∈ v1.ownBlock.toList ++ (fs.flatten ++ f) → k ∈ v.ownBlock.toList ++ fs.flatten ∨ k ∈ f ∨ W.heap.size ≤ k := by
 have hrow : d.Row e W v xs (v.ownBlock.toList ++ fs.flatten) := ⟨cs, fs, ho, he, rfl⟩
 have hlt : ∀ k, k ∈ fs.flatten ++ f → k < W.heap.size := by
  intro k hk
  rcases List.mem_append.1 hk with hk | hk
  · exact Od.row_lt hrow k (List.mem_append_right _ hk)
  · exact d.lt hp k hk
 rw [List.append_assoc, List.nodup_append] at hnd
 obtain ⟨n1, n2, n3⟩ := hnd
 have hne : ∀ k, k ∈ fs.flatten ++ f → some k ≠ v.ownBlock := by
  intro k hk hv
  exact n3 k (by simp [← hv]) k hk rfl
 refine ⟨⟨cs ++ [c], fs ++ [f], ?_, ?_, by simp⟩, ?_, ?_⟩
 · rw [List.length_append, List.length_singleton, List.flatten_append, List.flatten_singleton]
   exact own_weaken hown (Nat.zero_le _)
 · refine (he.imp fun c x f' hf' hr => d.move (fun k hk => ?_) hr).snoc (d.move (fun k hk => ?_) hp)
   · have hm : k ∈ fs.flatten ++ f := List.mem_append_left _ (List.mem_flatten.2 ⟨f', hf', hk⟩)
     exact hg.block k (hlt k hm) (hne k hm)
   · have hm : k ∈ fs.flatten ++ f := List.mem_append_right _ hk
     exact hg.block k (hlt k hm) (hne k hm)
 · rw [List.nodup_append]
   refine ⟨by cases v1.ownBlock <;> simp, n2, fun x hx y hy => ?_⟩
   rintro rfl
   have hx' : v1.ownBlock = some x := by simpa using hx
   rcases hat with hat | ⟨b, hb, hle⟩
   · exact hne x hy (by rw [← hat, hx'])
   · rw [hb] at hx'
     injection hx' with hx'
     have := hlt x hy
     omega
 · intro k hk
   rcases List.mem_append.1 hk with hk | hk
   · have hk' : v1.ownBlock = some k := by simpa using hk
     rcases hat with hat | ⟨b, hb, hle⟩
     · exact .inl (List.mem_append_left _ (by rw [← hat]; exact hk))
     · rw [hb] at hk'
       injection hk' with hk'
       exact .inr (.inr (by omega))
   · rcases List.mem_append.1 hk with hk | hk
     · exact .inl (List.mem_append_right _ hk)
     · exact .inr (.inl hk)
section
variable {P : Program} {ops : Array Oper} {rest : List Oper} {o : Oper} {a : Act} {Q' : Exit → Act → World → Prop} {Kc : Act → World → Prop} {α : Type}
theorem Od.row_append (d : Od α) {w0 W : World} (base : Nat) (hgd : o.guard = none) (s x : Operand) (t e : TypeId) (z : Value) (bytes : Nat)
 (ho : o.op = .call { callee := .builtin .append, args := #[s, x], argTypes := #[t, t] })
 (ht : P.underlying t = some (.slice e)) (hinfo : (P.info? e).map (fun i => (i.zero, i.size, i.bytes)) = some (some z, d.kd.sz, bytes)) (hz : z.cells.size = d.kd.sz) (hs0 : 0 < d.kd.sz) (hb0 : 0 < bytes)
 (v : Value) (xs : List α) (p : α) (c : List Value) (f fp : List Nat) (hs : a.eval s = v) (hx : a.eval x = .slice (some ⟨W.heap.size, 0, none⟩) 1 1)
 (HO : d.Row e W v xs fp) (HP : d.O W c p f) (hnd : (fp ++ f).Nodup) (hbk : ∀ k, k ∈ fp → base ≤ k) (HB : Below base w0 W) (hbase : base ≤ W.heap.size) (hl : (xs.length + 1) * bytes ≤ 140737488355328)
 (h : ∀ v1 w1 fp1, d.Row e w1 v1 (xs ++ [p]) fp1 → fp1.Nodup → (∀ k, k ∈ fp1 → k ∈ fp ∨ k ∈ f ∨ W.heap.size ≤ k) → Below base w0 w1 → W.grownBy w1 v.ownBlock → wpList P ops Q' rest (a.put o.dst v1) w1) :
 wpList P ops Q' (o :: rest) a (W.alloc (.cells c.toArray e)) := by
 obtain ⟨cs, fs, ho', he, rfl⟩ := HO
 have hob : W.ownsRow base e d.kd.sz v xs.length cs.flatten := by
  refine ⟨ho'.1, ?_⟩
  rcases ho'.2 with h | ⟨g, cap, cur, rfl, _, r⟩
  · exact .inl h
  · exact .inr ⟨g, cap, cur, rfl, hbk g (by simp [Value.ownBlock]), r⟩
 refine QbU base hgd s x t e z d.kd.sz bytes ho ht hinfo hz hs0 hb0 v xs.length cs.flatten c hs hx (d.len HP) (d.one HP) hob HB hbase hl ?_
 intro v1 w1 hown hb hg hat
 obtain ⟨h1, h2, h3⟩ := Od.row_snoc ho' he HP hnd hown hg hat
 exact h v1 w1 _ h1 h2 h3 hb hg
end
def Od.Flat {α : Type} (d : Od α) : Prop := ∀ w base ok c x, (∀ f, d.O w c x f → f = [] ∧ d.kd.M w base ok x c) ∧ (d.kd.M w base ok x c → d.O w c x [])
theorem Els.of_reps {α : Type} {d : Od α} {w : World} (sz : Nat) (R : α → List Value → Prop) (hR : ∀ x c, R x c → d.O w c x []) : ∀ (xs : List α) (inner : List Value), Qa9 R sz xs inner → ∃ cs, cs.flatten = inner ∧ Els (d.O w) xs cs (xs.map fun _ => []) := by
 intro xs
 induction xs with
 | nil =>
   intro inner h
   have : inner = [] := List.eq_nil_of_length_eq_zero (by rw [h.1]; simp)
   subst this
   exact ⟨[], rfl, .nil⟩
 | cons x xs ih =>
   intro inner h
   have h1 : inner.length = (xs.length + 1) * sz := by rw [h.1, List.length_cons]
   have h0 := h.2 0 x rfl
   rw [Nat.zero_mul, List.drop_zero] at h0
   obtain ⟨cs, e1, e2⟩ := ih (inner.drop sz) ⟨by rw [List.length_drop, h1, Nat.add_mul]; omega, fun j p hj => by
    have := h.2 (j + 1) p (by rw [List.getElem?_cons_succ]; exact hj)
    rw [Nat.add_mul, Nat.one_mul, Nat.add_comm, ← List.drop_drop] at this
    exact this⟩
   exact ⟨inner.take sz :: cs, by rw [List.flatten_cons, e1, List.take_append_drop], .cons (hR _ _ h0) e2⟩
theorem Od.row_of_R {α : Type} {d : Od α} (hd : d.Flat) {e base : Nat} {w : World} {ok : Nat → Prop} {v : Value} {xs : List α} (h : d.kd.R e w base ok v xs) : d.Row e w v xs v.ownBlock.toList ∧ ∀ k, k ∈ v.ownBlock.toList → ok k ∧ base ≤ k := by
 obtain ⟨h0, inner, ho, hr⟩ := h
 obtain ⟨cs, rfl, he⟩ := Els.of_reps d.kd.sz _ (fun x c hm => (hd w base _ c x).2 hm) xs inner hr
 refine ⟨⟨cs, _, own_weaken ho (Nat.zero_le _), he, ?_⟩, fun k hk => ?_⟩
 · have : (xs.map fun _ => ([] : List Nat)).flatten = [] := by simp
   rw [this, List.append_nil]
 · have hk' : v.ownBlock = some k := by simpa using hk
   exact ⟨h0 k hk', Qcg ho k hk'⟩
theorem Od.flat_fp {α : Type} {d : Od α} (hd : d.Flat) {e : Nat} {w : World} {v : Value} {xs : List α} {fp : List Nat} (h : d.Row e w v xs fp) : fp = v.ownBlock.toList := by
 obtain ⟨cs, fs, ho, he, rfl⟩ := h
 have key : ∀ (xs : List α) (cs : List (List Value)) (fs : List (List Nat)), Els (d.O w) xs cs fs → fs.flatten = [] := by
  intro xs cs fs he
  induction he with
  | nil => rfl
  | cons h1 _ ih => rw [List.flatten_cons, ih, ((hd w 0 (fun _ => True) _ _).1 _ h1).1]; rfl
 rw [key xs cs fs he, List.append_nil]
theorem Od.R_of_row {α : Type} {d : Od α} (hd : d.Flat) {e base : Nat} {w : World} {ok : Nat → Prop} {v : Value} {xs : List α} {fp : List Nat} (h : d.Row e w v xs fp) (hb : ∀ k, k ∈ fp → base ≤ k ∧ ok k) : d.kd.R e w base ok v xs := by
 have e0 := Od.flat_fp hd h
 obtain ⟨cs, fs, ho, he, rfl⟩ := h
 refine ⟨fun k hk => (hb k (by rw [e0]; simp [hk])).2, cs.flatten, ?_, he.flat_len (fun _ _ _ hr => d.len hr), fun j p hj => ?_⟩
 · refine ⟨ho.1, ?_⟩
   rcases ho.2 with h | ⟨g, cap, cur, rfl, _, r⟩
   · exact .inl h
   · exact .inr ⟨g, cap, cur, rfl, (hb g (by simp [Value.ownBlock])).1, r⟩
 · obtain ⟨c, f, hc, hf, hr⟩ := he.get hj
   rw [he.flat_drop (fun _ _ _ hr => d.len hr) j hc]
   exact ((hd w base _ c p).1 f hr).2
end Go.Proofs.Ytabcijheemjplaa.G
namespace Go.Proofs.Ytabcijheemjplaa.G
open Go.RowKit Go.Proofs.YtabcijheemjplaaW.PrintWords Go.Proofs.YtabcijheemjplaaW.PrintLast Go.Proofs.YtabcijheemjplaaW.PrintMore
attribute [local go_sem] QaQ QaR Qa3 Qa4 QaJ QaK QaS QaT
set_option linter.unusedVariables false
set_option linter.unusedSimpArgs false
namespace Od
def int (k : IntKind) : Od Int := scalar (Value.int k) (fun _ => rfl)
def bool : Od Bool := scalar Value.bool (fun _ => rfl)
end Od
def od_Val : Od Qcc := .iso (.pair (.int .i64) (.int .i64)) (fun x : Qcc => (x.f0, x.f1))
def od_Call : Od S_impl_Call := .iso (.pair (.int .i64) (.pair (.int .i64) (.pair (.slice 104 od_Val) (.pair (.slice 104 od_Val) (.pair (.int .i64) .bool))))) (fun x : S_impl_Call => (x.f0, x.f1, x.f2, x.f3, x.f4, x.f5))
structure Hp where
 calls : List S_impl_Call
 now : Int
 born : Int
 said : List Qcc
 code : Int
end Go.Proofs.Ytabcijheemjplaa.G
namespace Go.Proofs.Ytabcijheemjplaa.G
open Go.RowKit Go.Proofs.YtabcijheemjplaaW.PrintWords Go.Proofs.YtabcijheemjplaaW.PrintLast Go.Proofs.YtabcijheemjplaaW.PrintMore
attribute [local go_sem] QaQ QaR Qa3 Qa4 QaJ QaK QaS QaT
set_option linter.unusedVariables false
set_option linter.unusedSimpArgs false
theorem Od.row_empty {α : Type} (d : Od α) {e : Nat} {w : World} {g : Nat} (h : w.heap[g]? = some (.cells #[] e (0, 0))) : d.Row e w (.slice (some ⟨g, 0, none⟩) 0 0) [] [g] :=
 ⟨[], [], ⟨by simp, .inr ⟨g, 0, #[], rfl, Nat.zero_le _, h, Nat.le_refl _, by simp [maxLen], by simp, by simp⟩⟩, .nil, by simp [Value.ownBlock]⟩
theorem Od.row_form {α : Type} {d : Od α} {e : Nat} {w : World} {v : Value} {xs : List α} {fp : List Nat} (h : d.Row e w v xs fp) : ∃ A n c, v = .slice A n c := by
 obtain ⟨A, c, rfl, _⟩ := Od.row_slice h
 exact ⟨A, _, c, rfl⟩
theorem Od.row_block {α : Type} {d : Od α} {e : Nat} {w : World} {v : Value} {xs : List α} {fp : List Nat} (h : d.Row e w v xs fp) : ∀ k, v.ownBlock = some k → k ∈ fp := by
 obtain ⟨cs, fs, _, _, rfl⟩ := h
 intro k hk
 exact List.mem_append_left _ (by simp [hk])
theorem Od.row_take {α : Type} {d : Od α} (hd : d.Flat) {e m n c : Nat} {w : World} {A : Option Addr} {xs : List α} {fp : List Nat} (h : d.Row e w (.slice A n c) xs fp) (hm : m ≤ xs.length) : d.Row e w (.slice A m c) (xs.take m) fp := by
 have e0 := Od.flat_fp hd h
 obtain ⟨cs, fs, ho, he, hfp⟩ := h
 have hn : n = xs.length := by
  rcases ho.2 with ⟨h1, h2⟩ | ⟨g, cap, cur, h1, _⟩
  · injection h1 with _ h1
    omega
  · injection h1 with _ h1
 subst hn
 have hl : (xs.take m).length = m := by rw [List.length_take]; omega
 have het := he.take m
 have hfl : (cs.take m).flatten.length = m * d.kd.sz := by rw [het.flat_len (fun _ _ _ hr => d.len hr), hl]
 have hpre : (cs.take m).flatten = cs.flatten.take (m * d.kd.sz) := by
  have h1 : cs.flatten = (cs.take m).flatten ++ (cs.drop m).flatten := by rw [← List.flatten_append, List.take_append_drop]
  rw [h1, ← hfl, List.take_left]
 have hff : (fs.take m).flatten = [] := by
  have : fs.flatten = [] := by
   rw [e0] at hfp
   have := congrArg List.length hfp
   rw [List.length_append] at this
   exact List.eq_nil_of_length_eq_zero (by omega)
  have h1 : fs.flatten = (fs.take m).flatten ++ (fs.drop m).flatten := by rw [← List.flatten_append, List.take_append_drop]
  rw [h1] at this
  exact (List.append_eq_nil_iff.1 this).1
 refine ⟨cs.take m, fs.take m, ⟨by rw [hfl, hl], ?_⟩, het, by rw [hff, List.append_nil, e0]; cases A <;> rfl⟩
 rw [hl]
 rcases ho.2 with ⟨h1, h2⟩ | ⟨g, cap, cur, h1, h0, hb, h2, h3, h4, h5⟩
 · injection h1 with h1 h6 h7
   subst h1; subst h7
   exact .inl ⟨by rw [show m = 0 by omega], by omega⟩
 · injection h1 with h1 h6 h7
   subst h1; subst h7
   exact .inr ⟨g, c, cur, rfl, h0, hb, by omega, h3, h4, by rw [hpre, ← h5, List.take_take, Nat.min_eq_left (Nat.mul_le_mul_right _ hm)]⟩
section
variable {P : Program} {ops : Array Oper} {rest : List Oper} {o : Oper} {a : Act} {Q' : Exit → Act → World → Prop} {Kc : Act → World → Prop} {α : Type}
theorem Od.row_cat (d : Od α) (hd : d.Flat) {w0 W : World} (base : Nat) (hgd : o.guard = none) (s x : Operand) (t e : TypeId) (z : Value) (bytes : Nat)
 (ho : o.op = .call { callee := .builtin .append, args := #[s, x], argTypes := #[t, t] })
 (ht : P.underlying t = some (.slice e)) (hinfo : (P.info? e).map (fun i => (i.zero, i.size, i.bytes)) = some (some z, d.kd.sz, bytes)) (hz : z.cells.size = d.kd.sz) (hs0 : 0 < d.kd.sz) (hb0 : 0 < bytes)
 (v : Value) (xs ys : List α) (A : Option Addr) (m c : Nat) (fp : List Nat) (hs : a.eval s = v) (hx : a.eval x = .slice A m c)
 (HO : d.Row e W v xs fp) (HR : d.kd.C W A m ys) (hKM : ∀ x cs, d.kd.K W x cs → d.O W cs x []) (hbk : ∀ k, k ∈ fp → base ≤ k) (HB : Below base w0 W) (hbase : base ≤ W.heap.size) (hl : (xs.length + m) * bytes ≤ 140737488355328)
 (h : ∀ v1 w1 fp1, d.Row e w1 v1 (xs ++ ys) fp1 → fp1.Nodup → (∀ k, k ∈ fp1 → k ∈ fp ∨ W.heap.size ≤ k) → Below base w0 w1 → W.grownBy w1 v.ownBlock → wpList P ops Q' rest (a.put o.dst v1) w1) :
 wpList P ops Q' (o :: rest) a W := by
 have hfp := Od.flat_fp hd HO
 refine Kd.R_append_rows d.kd base hgd s x t e z bytes ho ht hinfo hz hs0 hb0 v xs ys A m c (fun k => k ∈ fp ∨ W.heap.size ≤ k) (fun _ => False) hs hx (Od.R_of_row hd HO (fun k hk => ⟨hbk k hk, .inl hk⟩)) HR (fun x cs hk => ((hd W base _ cs x).1 [] (hKM x cs hk)).2) (fun _ hk => hk.elim) (fun k hk => .inr hk) HB hbase hl ?_
 intro v1 w1 hR hb hg hat
 obtain ⟨h1, h2⟩ := Od.row_of_R hd hR
 exact h v1 w1 _ h1 (by cases v1.ownBlock <;> simp) (fun k hk => (h2 k hk).1) hb hg
end
end Go.Proofs.Ytabcijheemjplaa.G
namespace Go.Proofs.Ytabcijheemjplaa.G
open Go.RowKit Go.Proofs.YtabcijheemjplaaW.PrintWords Go.Proofs.YtabcijheemjplaaW.PrintLast Go.Proofs.YtabcijheemjplaaW.PrintMore
attribute [local go_sem] QaQ QaR Qa3 Qa4 QaJ QaK QaS QaT
set_option linter.unusedVariables false
set_option linter.unusedSimpArgs false
theorem od_set_self {α : Type} {l : List α} {i : Nat} {x : α} (h : l[i]? = some x) : l.set i x = l := by
 apply List.ext_getElem?
 intro j
 by_cases e : i = j
 · subst e
   rw [List.getElem?_set_self (List.getElem?_eq_some_iff.1 h).1, h]
 · rw [List.getElem?_set_ne e]
theorem nodup_of_flat {fs : List (List Nat)} (h : fs.flatten.Nodup) {i : Nat} {f : List Nat} (hf : fs[i]? = some f) : f.Nodup := by
 induction fs generalizing i with
 | nil => simp at hf
 | cons a fs ih =>
   rw [List.flatten_cons, List.nodup_append] at h
   cases i with
   | zero =>
     simp only [List.getElem?_cons_zero, Option.some.injEq] at hf
     subst hf
     exact h.1
   | succ i => exact ih h.2.1 (by simpa using hf)
theorem Od.row_elem {α : Type} {d : Od α} {e : Nat} {w : World} {v : Value} {xs : List α} {fp : List Nat} (h : d.Row e w v xs fp) {k : Nat} {x : α} (hx : xs[k]? = some x) :
 ∃ g cap c f, v = .slice (some ⟨g, 0, none⟩) xs.length cap ∧ xs.length ≤ cap ∧ d.O w c x f ∧ (∀ j u, c[j]? = some u → w.cell? ⟨g, k * d.kd.sz + j, none⟩ = some u) ∧ (∀ j, w.frozen? ⟨g, j, none⟩ = false) ∧ (∀ b, b ∈ f → b ∈ fp) ∧ g ∈ fp ∧
  (fp.Nodup → g ∉ f ∧ f.Nodup ∧
   (∀ j u x', j < d.kd.sz → d.O w (c.set j u) x' f → d.Row e (w.setCell ⟨g, k * d.kd.sz + j, none⟩ u) v (xs.set k x') fp) ∧
   (∀ (w1 : World) x', (∀ b, b ∈ fp → b ∉ f → w1.heap[b]? = w.heap[b]?) → d.O w1 c x' f → d.Row e w1 v (xs.set k x') fp) ∧
   ∀ (w1 : World) (cur : Array Value) (c' : List Value) x' f', w.heap[g]? = some (.cells cur e (0, 0)) → (∀ b, b ∈ fp → b ≠ g → b ∉ f → w1.heap[b]? = w.heap[b]?) →
    (∃ ups : List (Nat × Value), (∀ q, q ∈ ups → q.1 < d.kd.sz) ∧ c' = ups.foldl (fun c q => c.set q.1 q.2) c ∧ w1.heap[g]? = some (.cells (ups.foldl (fun a q => a.setIfInBounds (k * d.kd.sz + q.1) q.2) cur) e (0, 0))) →
    d.O w1 c' x' f' → f'.Nodup → (∀ b, b ∈ f' → b ∈ f ∨ b ∉ fp) → ∃ fp', d.Row e w1 v (xs.set k x') fp' ∧ fp'.Nodup ∧ ∀ b, b ∈ fp' → b ∈ fp ∨ b ∈ f') := by
 have hk : k < xs.length := (List.getElem?_eq_some_iff.1 hx).1
 obtain ⟨g, cap, cur, cs, fs, rfl, rfl, op⟩ := Od.row_open h (by omega)
 obtain ⟨c, f, hc, hf, hO⟩ := op.get hx
 refine ⟨g, cap, c, f, rfl, op.le, hO, fun j u hu => op.cell hc hu, fun j => op.frozen j, fun b hb => List.mem_cons_of_mem _ (Od.mem_flat hf hb), List.mem_cons_self, fun hnd => ?_⟩
 have hgf : g ∉ fs.flatten := (List.nodup_cons.1 hnd).1
 have hg : g ∉ f := fun hm => hgf (Od.mem_flat hf hm)
 have hfn : f.Nodup := nodup_of_flat (List.nodup_cons.1 hnd).2 hf
 have efs : fs.set k f = fs := od_set_self hf
 have hlen : c.length = d.kd.sz := d.len hO
 have put := fun (w1 : World) (cur' : Array Value) (c' : List Value) (x' : α) (f' : List Nat) h1 h2 h3 h4 h5 => (op.put (w1 := w1) hnd hf (cur' := cur') (c' := c') (x' := x') (f' := f') h1 h2 h3 h4 h5).row
 simp only [List.length_set] at put
 have hkl : k * d.kd.sz + d.kd.sz ≤ xs.length * d.kd.sz := by
  rw [← Nat.succ_mul]
  exact Nat.mul_le_mul_right _ hk
 refine ⟨hg, hfn, fun j u x' hj hO' => ?_, fun w1 x' hw hO' => ?_, fun w1 cur0 c' x' f' hcur hw hup hO' hn' hf' => ?_⟩
 · have := put (w.setCell ⟨g, k * d.kd.sz + j, none⟩ u) (cur.setIfInBounds (k * d.kd.sz + j) u) (c.set j u) x' f (QbV op.blk _ u) (by simp)
    (by rw [Od.take_set, op.take, op.els.flat_set (fun _ _ _ hr => d.len hr) k hc j hj u]) (fun b hb _ => Below.heap_setCell _ _ _ _ (fun he => hgf (by have he' : b = g := he; rw [← he']; exact hb)))
    (d.move (fun b hb => Below.heap_setCell _ _ _ _ (fun he => hg (by have he' : b = g := he; rw [← he']; exact hb))) hO')
   rw [efs] at this
   exact this
 · have := put w1 cur c x' f ((hw g List.mem_cons_self hg).trans op.blk) rfl (by rw [op.take, od_set_self hc]) (fun b hb hbf => hw b (List.mem_cons_of_mem _ hb) hbf) hO'
   rw [efs] at this
   exact this
 · rw [op.blk] at hcur
   injection hcur with hcur
   injection hcur with hcur
   subst hcur
   obtain ⟨ups, hup1, rfl, hblk⟩ := hup
   have key : ∀ (ups : List (Nat × Value)), (∀ q, q ∈ ups → q.1 < d.kd.sz) → ∀ (a : Array Value) (c0 : List Value), c0.length = d.kd.sz → a.toList.take (xs.length * d.kd.sz) = (cs.set k c0).flatten →
    (ups.foldl (fun a q => a.setIfInBounds (k * d.kd.sz + q.1) q.2) a).size = a.size ∧ (ups.foldl (fun a q => a.setIfInBounds (k * d.kd.sz + q.1) q.2) a).toList.take (xs.length * d.kd.sz) = (cs.set k (ups.foldl (fun c q => c.set q.1 q.2) c0)).flatten := by
    intro ups
    induction ups with
    | nil => intro _ a c0 _ h; exact ⟨rfl, h⟩
    | cons q ups ih =>
      intro hq a c0 hl0 h
      have hkc : k < cs.length := by rw [op.els.len_c]; exact hk
      have step : (a.setIfInBounds (k * d.kd.sz + q.1) q.2).toList.take (xs.length * d.kd.sz) = (cs.set k (c0.set q.1 q.2)).flatten := by
       rw [Od.take_set, h]
       have hel : ∀ (cs : List (List Value)) (k : Nat), (∀ c, c ∈ cs → c.length = d.kd.sz) → k < cs.length → (cs.set k c0).flatten.set (k * d.kd.sz + q.1) q.2 = (cs.set k (c0.set q.1 q.2)).flatten := by
        intro cs
        induction cs with
        | nil => intro k _ hk; simp at hk
        | cons c cs ihc =>
          intro k hcl hk
          have hq1 := hq q List.mem_cons_self
          cases k with
          | zero => rw [List.set_cons_zero, List.set_cons_zero, List.flatten_cons, List.flatten_cons, Nat.zero_mul, Nat.zero_add, List.set_append_left _ _ (by omega)]
          | succ k =>
            have hc0 := hcl c List.mem_cons_self
            rw [List.set_cons_succ, List.set_cons_succ, List.flatten_cons, List.flatten_cons, List.set_append_right _ _ (by rw [hc0, Nat.add_mul]; omega), ← ihc k (fun c' hc' => hcl c' (List.mem_cons_of_mem _ hc')) (by simpa using hk)]
            congr 2
            rw [hc0, Nat.add_mul]
            omega
       refine hel cs k (fun c' hc' => ?_) hkc
       obtain ⟨i, hi⟩ := List.getElem?_of_mem hc'
       have hix : i < xs.length := by rw [← op.els.len_c]; exact (List.getElem?_eq_some_iff.1 hi).1
       obtain ⟨c2, f2, h2, _, hr2⟩ := op.els.get (List.getElem?_eq_getElem hix)
       rw [hi] at h2
       injection h2 with h2
       rw [h2]
       exact d.len hr2
      obtain ⟨h1, h2⟩ := ih (fun q' hq' => hq q' (List.mem_cons_of_mem _ hq')) _ (c0.set q.1 q.2) (by rw [List.length_set, hl0]) step
      exact ⟨by rw [List.foldl_cons, h1]; simp, h2⟩
   obtain ⟨k1, k2⟩ := key ups hup1 cur c hlen (by rw [od_set_self hc, op.take])
   refine ⟨_, put w1 _ _ x' f' hblk k1 k2 (fun b hb hbf => hw b (List.mem_cons_of_mem _ hb) (fun he => hgf (he ▸ hb)) hbf) hO', ?_, ?_⟩
   · rw [List.nodup_cons]
     refine ⟨fun hm => ?_, Od.nodup_flat_set (List.nodup_cons.1 hnd).2 hf hn' (fun b hb => ?_)⟩
     · rcases Od.mem_flat_set hm with h | h
       · exact hgf h
       · rcases hf' g h with h | h
         · exact hg h
         · exact h List.mem_cons_self
     · rcases hf' b hb with h | h
       · exact .inl h
       · exact .inr fun hm => h (List.mem_cons_of_mem _ hm)
   · intro b hb
     rcases List.mem_cons.1 hb with rfl | hb
     · exact .inl List.mem_cons_self
     · rcases Od.mem_flat_set hb with h | h
       · exact .inl (List.mem_cons_of_mem _ h)
       · exact .inr h
end Go.Proofs.Ytabcijheemjplaa.G
namespace Go.Proofs.Ytabcijheemjplaa.G
open Go.RowKit Go.Proofs.YtabcijheemjplaaW.PrintWords Go.Proofs.YtabcijheemjplaaW.PrintLast Go.Proofs.YtabcijheemjplaaW.PrintMore
attribute [local go_sem] QaQ QaR Qa3 Qa4 QaJ QaK QaS QaT
set_option linter.unusedVariables false
set_option linter.unusedSimpArgs false
theorem Qa1 {w : World} {p : Addr} {u : Value} {k : Nat} (h : k ≠ p.block) : (w.setCell p u).heap[k]? = w.heap[k]? := Below.heap_setCell w p u k h
theorem Qbk {w w1 : World} {g : Nat} (h : Qai w w1 g none) {b o : Nat} (hb : b ≠ g) {u : Value} (hc : w.cell? ⟨b, o, none⟩ = some u) : w1.cell? ⟨b, o, none⟩ = some u :=
 (World.cell?_of_block (w := w) (w' := w1) (a := ⟨b, o, none⟩) (h.2 b (World.block_lt_of_cell? w _ hc) hb (by simp))).trans hc
theorem QbK {w w1 : World} {g : Nat} (h : Qai w w1 g none) {b o j : Nat} (hb : b ≠ g) {u : Value} (hc : w.cell? ⟨b, o, none⟩ = some u) (hf : w.frozen? ⟨b, j, none⟩ = false) : w1.frozen? ⟨b, j, none⟩ = false :=
 (World.frozen?_of_block (w := w) (w' := w1) (a := ⟨b, j, none⟩) (h.2 b (World.block_lt_of_cell? w _ hc) hb (by simp))).trans hf
end Go.Proofs.Ytabcijheemjplaa.G
namespace Go.Proofs.Ytabcijheemjplaa.G
open Go.RowKit Go.Proofs.YtabcijheemjplaaW.PrintWords Go.Proofs.YtabcijheemjplaaW.PrintLast Go.Proofs.YtabcijheemjplaaW.PrintMore
attribute [local go_sem] QaQ QaR Qa3 Qa4 QaJ QaK QaS QaT
set_option linter.unusedVariables false
set_option linter.unusedSimpArgs false
structure Loc where
 f : List Nat
 P : World → Prop
 st : ∀ {W W' : World}, (∀ k, k ∈ f → W'.heap[k]? = W.heap[k]?) → P W → P W'
def Loc.blk (b : Nat) (o : Obj) : Loc := ⟨[b], fun W => W.heap[b]? = some o, fun hm h => (hm b (by simp)).trans h⟩
def Loc.row (v : Value) (xs : List Qcc) (f : List Nat) : Loc := ⟨f, fun W => od_Val.Row 104 W v xs f, fun hm h => Od.row_move hm h⟩
def Loc.all (L : List Loc) : List Nat := (L.map Loc.f).flatten
theorem Loc.mem_all {L : List Loc} {r : Loc} (hr : r ∈ L) {k : Nat} (hk : k ∈ r.f) : k ∈ Loc.all L := List.mem_flatten.2 ⟨r.f, List.mem_map.2 ⟨r, hr, rfl⟩, hk⟩
theorem Loc.all_cons (r : Loc) (L : List Loc) : Loc.all (r :: L) = r.f ++ Loc.all L := by unfold Loc.all; rw [List.map_cons, List.flatten_cons]
structure HSt (w0 W : World) (g : Nat) (pre : List Value) (t : Nat) (h : Hp) (L : List Loc) (cv sv : Value) (fc fs : List Nat) : Prop where
 blk : W.heap[g]? = some (.cells (pre ++ [cv, .int .i64 h.now, .int .i64 h.born, sv, .int .i64 h.code]).toArray t (0, 0))
 calls : od_Call.Row 67 W cv h.calls fc
 said : od_Val.Row 104 W sv h.said fs
 nd : (g :: (fc ++ (fs ++ Loc.all L))).Nodup
 lo : ∀ k, k ∈ g :: (fc ++ (fs ++ Loc.all L)) → w0.heap.size ≤ k ∧ k < W.heap.size
 loc : ∀ r, r ∈ L → r.P W
 bel : Below w0.heap.size w0 W
def HS (w0 W : World) (g : Nat) (pre : List Value) (t : Nat) (h : Hp) (L : List Loc) : Prop := ∃ cv sv fc fs, HSt w0 W g pre t h L cv sv fc fs
theorem perm_local (g : Nat) (fc fs a b : List Nat) : (g :: (fc ++ (fs ++ (a ++ b)))).Perm (a ++ (g :: (fc ++ (fs ++ b)))) := by
 rw [List.perm_iff_count]
 intro x
 simp only [List.count_cons, List.count_append]
 omega
section
variable {w0 W W1 : World} {g : Nat} {pre : List Value} {t : Nat} {h : Hp} {L : List Loc} {cv sv : Value} {fc fs : List Nat}
theorem HSt.move (H : HSt w0 W g pre t h L cv sv fc fs) (hm : ∀ k, k ∈ g :: (fc ++ (fs ++ Loc.all L)) → W1.heap[k]? = W.heap[k]?) (hs : W.heap.size ≤ W1.heap.size) (hb : Below w0.heap.size w0 W1) : HSt w0 W1 g pre t h L cv sv fc fs := by
 refine ⟨(hm g List.mem_cons_self).trans H.blk, Od.row_move (fun k hk => hm k (by simp [hk])) H.calls, Od.row_move (fun k hk => hm k (by simp [hk])) H.said, H.nd, fun k hk => ⟨(H.lo k hk).1, Nat.lt_of_lt_of_le (H.lo k hk).2 hs⟩, fun r hr => r.st (fun k hk => hm k ?_) (H.loc r hr), hb⟩
 have := Loc.mem_all hr hk
 simp [this]
theorem HS.below (H : HS w0 W g pre t h L) (hb : Below W.heap.size W W1) : HS w0 W1 g pre t h L := by
 obtain ⟨cv, sv, fc, fs, H⟩ := H
 exact ⟨cv, sv, fc, fs, H.move (fun k hk => hb.block k (H.lo k hk).2) hb.size (Qa_ H.bel H.bel.size hb)⟩
theorem HS.bel (H : HS w0 W g pre t h L) : Below w0.heap.size w0 W := by
 obtain ⟨cv, sv, fc, fs, H⟩ := H
 exact H.bel
theorem HS.drew (H : HS w0 W g pre t h L) : HS w0 W.drew g pre t h L := H.below (QbR (Below.refl _ _))
theorem HS.drewN (H : HS w0 W g pre t h L) (n : Nat) : HS w0 (W.drewN n) g pre t h L := H.below (Qar (Below.refl _ _) n)
theorem HS.alloc0 (H : HS w0 W g pre t h L) (o : Obj) : HS w0 (W.alloc o) g pre t h L := H.below (Qal (Below.refl _ _) o)
theorem HSt.add (H : HSt w0 W g pre t h L cv sv fc fs) (r : Loc) (hP : r.P W) (hn : r.f.Nodup) (hk : ∀ k, k ∈ r.f → k ∉ g :: (fc ++ (fs ++ Loc.all L)) ∧ w0.heap.size ≤ k ∧ k < W.heap.size) : HSt w0 W g pre t h (r :: L) cv sv fc fs := by
 have hp : ∀ k, k ∈ g :: (fc ++ (fs ++ Loc.all (r :: L))) ↔ k ∈ r.f ∨ k ∈ g :: (fc ++ (fs ++ Loc.all L)) := fun k => by
  rw [Loc.all_cons]
  simp only [List.mem_cons, List.mem_append]
  constructor
  · rintro (h | h | h | h | h) <;> simp [h]
  · rintro (h | h | h | h | h) <;> simp [h]
 refine ⟨H.blk, H.calls, H.said, ?_, fun k hk' => ?_, fun s hs => ?_, H.bel⟩
 · rw [Loc.all_cons]
   have e := perm_local g fc fs r.f (Loc.all L)
   rw [e.nodup_iff, List.nodup_append]
   exact ⟨hn, H.nd, fun a ha b hb e => (hk a ha).1 (e ▸ hb)⟩
 · rcases (hp k).1 hk' with h | h
   · exact (hk k h).2
   · exact H.lo k h
 · rcases List.mem_cons.1 hs with rfl | hs
   · exact hP
   · exact H.loc s hs
theorem HS.alloc (H : HS w0 W g pre t h L) (o : Obj) : HS w0 (W.alloc o) g pre t h (Loc.blk W.heap.size o :: L) := by
 obtain ⟨cv, sv, fc, fs, H'⟩ := H.alloc0 o
 obtain ⟨cv2, sv2, fc2, fs2, H2⟩ := H
 have H3 := H2.move (W1 := W.alloc o) (fun k hk => Below.heap_alloc _ _ _ (H2.lo k hk).2) (by simp) (Qal H2.bel o)
 refine ⟨cv2, sv2, fc2, fs2, H3.add _ (heap_alloc_new W o) (by simp [Loc.blk]) (fun k hk => ?_)⟩
 simp only [Loc.blk, List.mem_singleton] at hk
 subst hk
 exact ⟨fun hm => absurd (H2.lo _ hm).2 (Nat.lt_irrefl _), H2.bel.size, by simp⟩
theorem HSt.drop {r : Loc} (H : HSt w0 W g pre t h (r :: L) cv sv fc fs) : HSt w0 W g pre t h L cv sv fc fs := by
 have hsub : ∀ k, k ∈ g :: (fc ++ (fs ++ Loc.all L)) → k ∈ g :: (fc ++ (fs ++ Loc.all (r :: L))) := fun k hk => by
  rw [Loc.all_cons]
  simp only [List.mem_cons, List.mem_append] at hk ⊢
  rcases hk with h | h | h | h <;> simp [h]
 refine ⟨H.blk, H.calls, H.said, ?_, fun k hk => H.lo k (hsub k hk), fun s hs => H.loc s (List.mem_cons_of_mem _ hs), H.bel⟩
 have hn := H.nd
 rw [Loc.all_cons] at hn
 refine hn.sublist (List.Sublist.cons_cons _ (List.Sublist.append_left (List.Sublist.append_left (List.sublist_append_right _ _) _) _))
theorem HS.drop {r : Loc} (H : HS w0 W g pre t h (r :: L)) : HS w0 W g pre t h L := by
 obtain ⟨cv, sv, fc, fs, H⟩ := H
 exact ⟨cv, sv, fc, fs, H.drop⟩
theorem HSt.ne {r : Loc} (H : HSt w0 W g pre t h (r :: L) cv sv fc fs) {k : Nat} (hk : k ∈ r.f) : k ∉ g :: (fc ++ (fs ++ Loc.all L)) := by
 have hn := H.nd
 rw [Loc.all_cons] at hn
 have e := perm_local g fc fs r.f (Loc.all L)
 rw [e.nodup_iff, List.nodup_append] at hn
 exact fun hm => hn.2.2 k hk k hm rfl
end
section
variable {w0 W : World} {g : Nat} {pre : List Value} {t : Nat} {h : Hp} {L : List Loc}
theorem HS.lt0 {b : Nat} {o : Obj} (H : HS w0 W g pre t h (Loc.blk b o :: L)) : b < W.heap.size ∧ b ≠ g ∧ g < W.heap.size ∧ w0.heap.size ≤ b := by
 obtain ⟨cv, sv, fc, fs, H⟩ := H
 have hne := H.ne (k := b) (by simp [Loc.blk])
 have hb := H.lo b (by rw [Loc.all_cons]; simp [Loc.blk])
 exact ⟨hb.2, fun e => hne (by rw [e]; exact List.mem_cons_self), (H.lo g List.mem_cons_self).2, hb.1⟩
end
end Go.Proofs.Ytabcijheemjplaa.G
namespace Go.Proofs.Ytabcijheemjplaa.G
open Go.RowKit Go.Proofs.YtabcijheemjplaaW.PrintWords Go.Proofs.YtabcijheemjplaaW.PrintLast Go.Proofs.YtabcijheemjplaaW.PrintMore
attribute [local go_sem] QaQ QaR Qa3 Qa4 QaJ QaK QaS QaT
set_option linter.unusedVariables false
set_option linter.unusedSimpArgs false
def od_Op : Od Qac := .iso (.pair (.int .i64) (.int .i64)) (fun x : Qac => (x.f0, x.f1))
def QbF : Od Qae := .iso (.pair (.int .i64) (.pair (.int .i64) (.slice 83 od_Op))) (fun x : Qae => (x.f0, x.f1, x.f2))
theorem od_Op_open {w : World} {c : List Value} {x : Qac} {f : List Nat} (h : od_Op.O w c x f) : c = [.int .i64 x.f0, .int .i64 x.f1] ∧ f = [] := by
 obtain ⟨_, _, _, _, rfl, rfl, ⟨rfl, rfl⟩, rfl, rfl⟩ := h
 exact ⟨rfl, rfl⟩
theorem od_Op_mk (w : World) (x : Qac) : od_Op.O w [.int .i64 x.f0, .int .i64 x.f1] x [] := ⟨[_], [_], [], [], rfl, rfl, ⟨rfl, rfl⟩, rfl, rfl⟩
theorem od_Op_K (w : World) (x : Qac) (cs : List Value) (h : od_Op.kd.K w x cs) : od_Op.O w cs x [] := by
 rw [Qck h]
 exact od_Op_mk w x
theorem od_Op_flat : od_Op.Flat := fun w base ok c x => ⟨fun f h => by
 obtain ⟨rfl, rfl⟩ := od_Op_open h
 exact ⟨rfl, [_], [_], rfl, rfl, rfl⟩, fun h => by
 obtain ⟨_, _, rfl, rfl, rfl⟩ := h
 exact od_Op_mk w x⟩
theorem od_Method_open {w : World} {c : List Value} {x : Qae} {f : List Nat} (h : QbF.O w c x f) : ∃ v2, c = [.int .i64 x.f0, .int .i64 x.f1, v2] ∧ od_Op.Row 83 w v2 x.f2 f := by
 obtain ⟨_, _, _, _, rfl, rfl, ⟨rfl, rfl⟩, _, _, _, _, rfl, rfl, ⟨rfl, rfl⟩, v2, rfl, h2⟩ := h
 exact ⟨v2, rfl, h2⟩
theorem QbS {w : World} {x : Qae} {v2 : Value} {f : List Nat} (h2 : od_Op.Row 83 w v2 x.f2 f) : QbF.O w [.int .i64 x.f0, .int .i64 x.f1, v2] x f :=
 ⟨[_], _, [], _, rfl, rfl, ⟨rfl, rfl⟩, [_], _, [], _, rfl, rfl, ⟨rfl, rfl⟩, v2, rfl, h2⟩
end Go.Proofs.Ytabcijheemjplaa.G
namespace Go.Proofs.Ytabcijheemjplaa.G
open Go.RowKit Go.Proofs.YtabcijheemjplaaW.PrintWords Go.Proofs.YtabcijheemjplaaW.PrintLast Go.Proofs.YtabcijheemjplaaW.PrintMore
attribute [local go_sem] QaQ QaR Qa3 Qa4 QaJ QaK QaS QaT
set_option linter.unusedVariables false
set_option linter.unusedSimpArgs false
set_option maxHeartbeats 4000000 in
set_option maxRecDepth 100000 in
theorem idx_impl_Method (g : Nat) (lb : Array Value) (eg : ∀ args w, (callFunc g args).run Try.prog w = .ok (.enter g args) w) (p : Qae → Bool) (A : Option Addr) (c : Nat) (l : List Qae) (w : World) (hr : Kd.C QaD w A l.length l)
 (hp : ∀ W, Below w.heap.size w W → ∀ x cs, x ∈ l → (QaD).K W x cs → Calls Try.prog g (#[.agg cs.toArray] ++ lb) W fun e w' => e = .returned (.bool (p x)) ∧ Below w.heap.size w w') :
 Calls Try.prog 107 #[.slice A l.length c, .func (.func g) #[] lb] w fun e w' => (∃ i : Int, e = .returned (.int .i64 i) ∧ decide (0 ≤ i) = l.any p) ∧ Below w.heap.size w w' := by
 have hl : l.length ≤ 9223372036854775807 := hr.2.1
 have HP := Aside0.mk hp
 have HR := Aside0.mk hr
 clear hp hr
 go_enter Try.func107, Try.ntmps107
 go_wp2
 go_loopg [5, 8] l.length (fun gg _ s8 wr => ∃ kk : Nat, kk ≤ l.length ∧ l.length - kk ≤ gg ∧ s8 = .int .i64 kk ∧ Aside0 (Below w.heap.size w wr) ∧ Aside0 (∀ j x, j < kk → l[j]? = some x → p x = false))
 case atStart => exact ⟨0, Nat.zero_le _, by omega, rfl, ⟨Below.refl _ w⟩, ⟨fun j x hj => absurd hj (Nat.not_lt_zero _)⟩⟩
 case round =>
  obtain ⟨kk, hkk, hg, rfl, BW, A0⟩ := hrel
  by_cases hlt : kk < l.length
  · have hltz : (kk : Int) < (l.length : Int) := by omega
    have hmem : Qaa l kk ∈ l := by
     unfold Qaa
     rw [List.getD_eq_getElem?_getD, Int.toNat_natCast, List.getElem?_eq_getElem hlt]
     exact List.getElem_mem hlt
    have hget : l[kk]? = some (Qaa l kk) := by
     unfold Qaa
     rw [List.getD_eq_getElem?_getD, Int.toNat_natCast, List.getElem?_eq_getElem hlt]
     rfl
    obtain ⟨ad, A2, c2, rfl, hx0, hx1, hx2, hl2, hr2⟩ := Qba (Kd.C_below HR.out BW.out) (kk : Int) (by omega) hltz
    have hcall := HP.out wr BW.out (Qaa l kk) [.int .i64 (Qaa l kk).f0, .int .i64 (Qaa l kk).f1, .slice A2 (Qaa l kk).f2.length c2] hmem (k_impl_Method_mk wr _ hl2 hr2)
    simp only [Int.toNat_natCast] at hx0 hx1 hx2
    have GET := Aside0.mk hget
    clear hget hmem hl2 hr2
    generalize hy : Qaa l kk = y at *
    clear hy
    cases hq : p y with
    | true =>
      rw [hq] at hcall
      go_wp2_with (go_at_fn g; refine hcall.mono ?_; rintro e w' ⟨rfl, hb'⟩)
      go_ret
      refine ⟨⟨_, rfl, ?_⟩, hb'⟩
      have h1 : l.any p = true := List.any_eq_true.mpr ⟨_, List.mem_of_getElem? GET.out, hq⟩
      rw [h1]
      exact decide_eq_true (by omega)
    | false =>
      rw [hq] at hcall
      go_wp2_with (go_at_fn g; refine hcall.mono ?_; rintro e w' ⟨rfl, hb'⟩)
      go_roundg (l.length - (kk + 1))
      case measure => omega
      case rel =>
       refine ⟨kk + 1, by omega, by omega, by go_num, ⟨hb'⟩, ⟨fun j x hj hx => ?_⟩⟩
       by_cases e : j = kk
       · subst e
         have := GET.out.symm.trans hx
         injection this with this
         rw [← this]; exact hq
       · exact A0.out j x (by omega) hx
  · have hltz : ¬ (kk : Int) < (l.length : Int) := by omega
    have : kk = l.length := by omega
    subst this
    go_wp2
    go_ret
    refine ⟨⟨_, rfl, ?_⟩, BW.out⟩
    have h1 : l.any p = false := by
     rw [List.any_eq_false]
     intro x hx
     obtain ⟨j, hj, rfl⟩ := List.mem_iff_getElem.mp hx
     have := A0.out j _ hj (List.getElem?_eq_getElem hj)
     simp [this]
    rw [h1]
    rfl
set_option maxHeartbeats 4000000 in
theorem contains_impl_Method (g : Nat) (lb : Array Value) (eg : ∀ args w, (callFunc g args).run Try.prog w = .ok (.enter g args) w) (p : Qae → Bool) (A : Option Addr) (c : Nat) (l : List Qae) (w : World) (hr : Kd.C QaD w A l.length l)
 (hp : ∀ W, Below w.heap.size w W → ∀ x cs, x ∈ l → (QaD).K W x cs → Calls Try.prog g (#[.agg cs.toArray] ++ lb) W fun e w' => e = .returned (.bool (p x)) ∧ Below w.heap.size w w') :
 Calls Try.prog 63 #[.slice A l.length c, .func (.func g) #[] lb] w fun e w' => e = .returned (.bool (l.any p)) ∧ Below w.heap.size w w' := by
 have HP := Aside0.mk hp
 have HR := Aside0.mk hr
 clear hp hr
 go_enter Try.func63, Try.ntmps63
 go_wp2_with (go_at_call 107; refine (idx_impl_Method g lb eg p A c l _ HR.out HP.out).mono ?_; rintro e w' ⟨⟨i, rfl, hi⟩, hb'⟩; have HI := Aside0.mk hi; clear hi)
 go_ret
 exact ⟨by rw [← HI.out]; rfl, hb'⟩
set_option maxHeartbeats 4000000 in
set_option maxRecDepth 100000 in
theorem idx_impl_Op (g : Nat) (lb : Array Value) (eg : ∀ args w, (callFunc g args).run Try.prog w = .ok (.enter g args) w) (p : Qac → Bool) (A : Option Addr) (c : Nat) (l : List Qac) (w : World) (hr : Kd.C QaB w A l.length l)
 (hp : ∀ W, Below w.heap.size w W → ∀ x cs, x ∈ l → (QaB).K W x cs → Calls Try.prog g (#[.agg cs.toArray] ++ lb) W fun e w' => e = .returned (.bool (p x)) ∧ Below w.heap.size w w') :
 Calls Try.prog 108 #[.slice A l.length c, .func (.func g) #[] lb] w fun e w' => (∃ i : Int, e = .returned (.int .i64 i) ∧ decide (0 ≤ i) = l.any p) ∧ Below w.heap.size w w' := by
 have hl : l.length ≤ 9223372036854775807 := hr.2.1
 have HP := Aside0.mk hp
 have HR := Aside0.mk hr
 clear hp hr
 go_enter Try.func108, Try.ntmps108
 go_wp2
 go_loopg [5, 8] l.length (fun gg _ s8 wr => ∃ kk : Nat, kk ≤ l.length ∧ l.length - kk ≤ gg ∧ s8 = .int .i64 kk ∧ Aside0 (Below w.heap.size w wr) ∧ Aside0 (∀ j x, j < kk → l[j]? = some x → p x = false))
 case atStart => exact ⟨0, Nat.zero_le _, by omega, rfl, ⟨Below.refl _ w⟩, ⟨fun j x hj => absurd hj (Nat.not_lt_zero _)⟩⟩
 case round =>
  obtain ⟨kk, hkk, hg, rfl, BW, A0⟩ := hrel
  by_cases hlt : kk < l.length
  · have hltz : (kk : Int) < (l.length : Int) := by omega
    have hmem : Qah l kk ∈ l := by
     unfold Qah
     rw [List.getD_eq_getElem?_getD, Int.toNat_natCast, List.getElem?_eq_getElem hlt]
     exact List.getElem_mem hlt
    have hget : l[kk]? = some (Qah l kk) := by
     unfold Qah
     rw [List.getD_eq_getElem?_getD, Int.toNat_natCast, List.getElem?_eq_getElem hlt]
     rfl
    obtain ⟨ad, rfl, hx0, hx1⟩ := QbJ (Kd.C_below HR.out BW.out) (kk : Int) (by omega) hltz
    have hcall := HP.out wr BW.out (Qah l kk) [.int .i64 (Qah l kk).f0, .int .i64 (Qah l kk).f1] hmem (k_impl_Op_mk wr _)
    simp only [Int.toNat_natCast] at hx0 hx1
    have GET := Aside0.mk hget
    clear hget hmem
    generalize hy : Qah l kk = y at *
    clear hy
    cases hq : p y with
    | true =>
      rw [hq] at hcall
      go_wp2_with (go_at_fn g; refine hcall.mono ?_; rintro e w' ⟨rfl, hb'⟩)
      go_ret
      refine ⟨⟨_, rfl, ?_⟩, hb'⟩
      have h1 : l.any p = true := List.any_eq_true.mpr ⟨_, List.mem_of_getElem? GET.out, hq⟩
      rw [h1]
      exact decide_eq_true (by omega)
    | false =>
      rw [hq] at hcall
      go_wp2_with (go_at_fn g; refine hcall.mono ?_; rintro e w' ⟨rfl, hb'⟩)
      go_roundg (l.length - (kk + 1))
      case measure => omega
      case rel =>
       refine ⟨kk + 1, by omega, by omega, by go_num, ⟨hb'⟩, ⟨fun j x hj hx => ?_⟩⟩
       by_cases e : j = kk
       · subst e
         have := GET.out.symm.trans hx
         injection this with this
         rw [← this]; exact hq
       · exact A0.out j x (by omega) hx
  · have hltz : ¬ (kk : Int) < (l.length : Int) := by omega
    have : kk = l.length := by omega
    subst this
    go_wp2
    go_ret
    refine ⟨⟨_, rfl, ?_⟩, BW.out⟩
    have h1 : l.any p = false := by
     rw [List.any_eq_false]
     intro x hx
     obtain ⟨j, hj, rfl⟩ := List.mem_iff_getElem.mp hx
     have := A0.out j _ hj (List.getElem?_eq_getElem hj)
     simp [this]
    rw [h1]
    rfl
set_option maxHeartbeats 4000000 in
theorem contains_impl_Op (g : Nat) (lb : Array Value) (eg : ∀ args w, (callFunc g args).run Try.prog w = .ok (.enter g args) w) (p : Qac → Bool) (A : Option Addr) (c : Nat) (l : List Qac) (w : World) (hr : Kd.C QaB w A l.length l)
 (hp : ∀ W, Below w.heap.size w W → ∀ x cs, x ∈ l → (QaB).K W x cs → Calls Try.prog g (#[.agg cs.toArray] ++ lb) W fun e w' => e = .returned (.bool (p x)) ∧ Below w.heap.size w w') :
 Calls Try.prog 65 #[.slice A l.length c, .func (.func g) #[] lb] w fun e w' => e = .returned (.bool (l.any p)) ∧ Below w.heap.size w w' := by
 have HP := Aside0.mk hp
 have HR := Aside0.mk hr
 clear hp hr
 go_enter Try.func65, Try.ntmps65
 go_wp2_with (go_at_call 108; refine (idx_impl_Op g lb eg p A c l _ HR.out HP.out).mono ?_; rintro e w' ⟨⟨i, rfl, hi⟩, hb'⟩; have HI := Aside0.mk hi; clear hi)
 go_ret
 exact ⟨by rw [← HI.out]; rfl, hb'⟩
end Go.Proofs.Ytabcijheemjplaa.G
