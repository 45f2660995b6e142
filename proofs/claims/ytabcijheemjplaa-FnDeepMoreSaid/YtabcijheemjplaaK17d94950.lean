import Derived.Test.YtabcijheemjplaaKe0efafdb
import Derived.Test.YtabcijheemjplaaK6f16abf9
import Derived.Test.YtabcijheemjplaaKdfd02416
import Derived.Test.YtabcijheemjplaaK6c614be3
import Derived.Test.YtabcijheemjplaaK47733c20
import Derived.Test.YtabcijheemjplaaKa35bc1ac
import Derived.Shelf.Abstract
namespace Go.Proofs.Ytabcijheemjplaa.G
set_option linter.unusedSimpArgs false
open Go.RowKit Go.Proofs.YtabcijheemjplaaW.PrintWords Go.Proofs.YtabcijheemjplaaW.PrintLast
theorem Qbu (a b c : Int) : QaM.f a b c = some (decide (b ≤ a ∧ a ≤ c)) := by
 unfold QaM.f
 by_cases h : b ≤ a
 · rw [if_pos h]
   simp [h]
 · rw [if_neg h]
   simp [h]
theorem kinds18 {n : Nat} (h1 : 1 ≤ n) (h2 : n ≤ 18) : n = 1 ∨ n = 2 ∨ n = 3 ∨ n = 4 ∨ n = 5 ∨ n = 6 ∨ n = 7 ∨ n = 8 ∨ n = 9 ∨ n = 10 ∨ n = 11 ∨ n = 12 ∨ n = 13 ∨ n = 14 ∨ n = 15 ∨ n = 16 ∨ n = 17 ∨ n = 18 := by omega
theorem l1Op_tells (l : List Qae) (x y : Int) (ops : List Qac) (k a : Int) (hl : l.length ≤ 1048576) (ho : ops.length ≤ 1048576) (hy0 : 0 ≤ y) (hy1 : y ≤ 4) :
 Ev (fun n => QaG.f n l x y ops k a) (Qb8 l.length y ops.length k a) := by
 refine Ev.of (fun n => QaG.mono _ _ _ _ _ _ n) (k := 4) ?_
 have hw1 : wrap64 (y - 1) = y - 1 := w64 (by omega) (by omega)
 have hw2 : wrap64 ((ops.length : Int) - 1) = (ops.length : Int) - 1 := w64 (by omega) (by omega)
 have hw3 : wrap64 ((l.length : Int) - 1) = (l.length : Int) - 1 := w64 (by omega) (by omega)
 unfold Qb8
 by_cases hk : 1 ≤ k ∧ k ≤ 18
 · rw [if_pos hk]
   obtain ⟨n, rfl⟩ := Int.eq_ofNat_of_zero_le (show 0 ≤ k by omega)
   rcases kinds18 (n := n) (by omega) (by omega) with rfl | rfl | rfl | rfl | rfl | rfl | rfl | rfl | rfl | rfl | rfl | rfl | rfl | rfl | rfl | rfl | rfl | rfl <;>
    simp [QaG.f, QaG.j0, QaG.j1, QaG.j2, Qbu, hw1, hw2, hw3, mG, mMost] <;> rfl
 · rw [if_neg hk]
   have e1 : ¬ k = 1 := by omega
   have e2 : ¬ k = 2 := by omega
   have e3 : ¬ k = 3 := by omega
   have e7 : ¬ k = 7 := by omega
   have e8 : ¬ k = 8 := by omega
   have e9 : ¬ k = 9 := by omega
   have e13 : ¬ k = 13 := by omega
   have e14 : ¬ k = 14 := by omega
   simp [QaG.f, QaG.j0, QaG.j1, QaG.j2, Qbu, hw1, hw2, hw3, e1, e2, e3, e7, e8, e9, e13, e14, hk]
theorem l1Method_tells (l : List Qae) (m : Qae) (hl : l.length ≤ 1048576) (hm : m.f2.length ≤ 1048576) : Ev (fun n => Qas.f n l m.f0 m.f1 m.f2) (!QaZ l.length m) := by
 unfold Qas.f QaZ
 by_cases c1 : 0 ≤ m.f0 ∧ m.f0 ≤ 2
 · refine Ev.bindc (Qbu _ _ _) (Ev.ifp (decide_eq_true c1) ?_)
   by_cases c2 : m.f0 ≤ m.f1 ∧ m.f1 ≤ 4
   · refine Ev.bindc (Qbu _ _ _) (Ev.ifp (decide_eq_true c2) ?_)
     by_cases c3 : m.f2.length ≤ 14
     · rw [if_pos ⟨c1.1, c1.2, c2.1, c2.2, c3⟩]
       refine Ev.step (fun k => by rw [Qas.j0]) (Ev.ifn (by simp; omega) ?_)
       obtain ⟨r, hp, hr⟩ := ev_for0 (σ := Unit) (fun k i _ => Qas.l0 k i l m.f0 m.f1 m.f2) m.f2.length (fun i _ => ∀ (j : Nat) (hj : j < m.f2.length), j < i → Qb8 l.length m.f1 m.f2.length m.f2[j].f0 m.f2[j].f1 = true)
        (fun r => r = !(m.f2.any (fun op => !Qb8 l.length m.f1 m.f2.length op.f0 op.f1)))
        (fun i _ hi hs => by
         have hop := l1Op_tells l m.f0 m.f1 m.f2 m.f2[i].f0 m.f2[i].f1 hl hm (by omega) (by omega)
         cases ho : Qb8 l.length m.f1 m.f2.length m.f2[i].f0 m.f2[i].f1 with
         | false =>
           refine .inl ⟨false, ?_, ?_⟩
           · have : m.f2.any (fun op => !Qb8 l.length m.f1 m.f2.length op.f0 op.f1) = true := List.any_eq_true.mpr ⟨m.f2[i], List.getElem_mem hi, by rw [ho]; rfl⟩
             rw [this]
             rfl
           · refine Ev.step (fun k => by rw [Qas.l0]) (Ev.ifp (by omega) (Ev.ifp (by omega) ?_))
             rw [Qca hi]
             rw [ho] at hop
             exact Ev.bnd hop (Ev.ifn (by simp) (Ev.now _))
         | true =>
           refine .inr ⟨(), fun j hj hji => ?_, fun r hr => ?_⟩
           · by_cases e : j = i
             · subst e; exact ho
             · exact hs j hj (by omega)
           · refine Ev.step (fun k => by rw [Qas.l0]) (Ev.ifp (by omega) (Ev.ifp (by omega) ?_))
             rw [Qca hi]
             rw [ho] at hop
             refine Ev.bnd hop (Ev.ifp rfl ?_)
             rw [w64 (by omega) (by omega)]
             exact hr)
        (fun _ hs => ⟨true, by
         have : m.f2.any (fun op => !Qb8 l.length m.f1 m.f2.length op.f0 op.f1) = false := by
          rw [List.any_eq_false]
          intro op hop
          obtain ⟨j, hj, rfl⟩ := List.mem_iff_getElem.mp hop
          simp [hs j hj hj]
         rw [this]
         rfl, Ev.step (fun k => by rw [Qas.l0]) (Ev.ifn (by omega) (Ev.now _))⟩)
        () (fun j hj h => absurd h (Nat.not_lt_zero _))
       rw [← hp]
       exact hr
     · rw [if_neg (fun h => c3 h.2.2.2.2)]
       refine Ev.step (fun k => by rw [Qas.j0]) ?_
       exact Ev.ifp (by simp; omega) (Ev.now _)
   · rw [if_neg (fun h => c2 ⟨h.2.2.1, h.2.2.2.1⟩)]
     refine Ev.bindc (Qbu _ _ _) (Ev.ifn (by simp only [decide_eq_true_eq]; exact c2) ?_)
     refine Ev.step (fun k => by rw [Qas.j0]) ?_
     exact Ev.ifp rfl (Ev.now _)
 · rw [if_neg (fun h => c1 ⟨h.1, h.2.1⟩)]
   refine Ev.bindc (Qbu _ _ _) (Ev.ifn (by simp only [decide_eq_true_eq]; exact c1) ?_)
   refine Ev.step (fun k => by rw [Qas.j0]) ?_
   exact Ev.ifp rfl (Ev.now _)
theorem Qb9 (l : List Qae) (hl : fewI l) : Ev (fun n => Qaz.f n l) (QbB l) := by
 unfold Qaz.f QbB
 have hl1 := hl.1
 by_cases c1 : 1 ≤ l.length ∧ l.length ≤ 4
 · refine Ev.bindc (Qbu _ _ _) (Ev.ifp (decide_eq_true (by omega)) (Ev.ifp (by omega) ?_))
   by_cases c2 : (Qaa l 0).f0 = 0
   · rw [if_pos ⟨c1.1, c1.2, c2⟩]
     refine Ev.step (fun k => by rw [Qaz.j0]) (Ev.ifn (by simp [c2]) ?_)
     obtain ⟨r, hp, hr⟩ := ev_for0 (σ := Unit) (fun k i _ => Qaz.l0 k i l) l.length (fun i _ => ∀ (j : Nat) (hj : j < l.length), j < i → QaZ l.length l[j] = false)
      (fun r => r = !(l.any (QaZ l.length)))
      (fun i _ hi hs => by
       have hm := l1Method_tells l l[i] hl1 (hl.2 _ (List.getElem_mem hi))
       cases ho : QaZ l.length l[i] with
       | true =>
         refine .inl ⟨false, ?_, ?_⟩
         · have : l.any (QaZ l.length) = true := List.any_eq_true.mpr ⟨l[i], List.getElem_mem hi, ho⟩
           rw [this]
           rfl
         · refine Ev.step (fun k => by rw [Qaz.l0]) (Ev.ifp (by omega) (Ev.ifp (by omega) ?_))
           rw [Qbl hi]
           rw [ho] at hm
           exact Ev.bnd hm (Ev.ifn (by simp) (Ev.now _))
       | false =>
         refine .inr ⟨(), fun j hj hji => ?_, fun r hr => ?_⟩
         · by_cases e : j = i
           · subst e; exact ho
           · exact hs j hj (by omega)
         · refine Ev.step (fun k => by rw [Qaz.l0]) (Ev.ifp (by omega) (Ev.ifp (by omega) ?_))
           rw [Qbl hi]
           rw [ho] at hm
           refine Ev.bnd hm (Ev.ifp rfl ?_)
           rw [w64 (by omega) (by omega)]
           exact hr)
      (fun _ hs => ⟨true, by
       have : l.any (QaZ l.length) = false := by
        rw [List.any_eq_false]
        intro op hop
        obtain ⟨j, hj, rfl⟩ := List.mem_iff_getElem.mp hop
        simp [hs j hj hj]
       rw [this]
       rfl, Ev.step (fun k => by rw [Qaz.l0]) (Ev.ifn (by omega) (Ev.now _))⟩)
      () (fun j hj h => absurd h (Nat.not_lt_zero _))
     rw [← hp]
     exact hr
   · rw [if_neg (fun h => c2 h.2.2)]
     refine Ev.step (fun k => by rw [Qaz.j0]) ?_
     exact Ev.ifp (by simp [c2]) (Ev.now _)
 · rw [if_neg (fun h => c1 ⟨h.1, h.2.1⟩)]
   refine Ev.bindc (Qbu _ _ _) (Ev.ifn (by simp only [decide_eq_true_eq]; omega) ?_)
   refine Ev.step (fun k => by rw [Qaz.j0]) ?_
   exact Ev.ifp rfl (Ev.now _)
def QbA (l : List Qae) (k a : Int) : Int × Int :=
 if 1 ≤ k ∧ k ≤ 18 then (if k = 9 then (if 0 ≤ a ∧ a < (l.length : Int) then ((Qaa l a).f0, 1) else (0, 0)) else (mTakes k.toNat, mLeft k.toNat)) else (0, 0)
theorem Qb5 (l : List Qae) (k a : Int) : QbM.f l k a = some (QbA l k a) := by
 unfold QbM.f QbA
 split
 · split
   · split <;> rfl
   · rfl
 · rfl
theorem specOpTakes_tells (l : List Qae) (k a : Int) (hl : l.length ≤ 1048576) : Ev (fun n => Qaq.f n l k a) (QbA l k a) := by
 refine Ev.of (fun n => Qaq.mono _ _ _ n) (k := 5) ?_
 have hw3 : wrap64 ((l.length : Int) - 1) = (l.length : Int) - 1 := w64 (by omega) (by omega)
 unfold QbA
 by_cases hk : 1 ≤ k ∧ k ≤ 18
 · rw [if_pos hk]
   by_cases h9 : k = 9
   · subst h9
     rw [if_pos rfl]
     by_cases ha : 0 ≤ a ∧ a < (l.length : Int)
     · have ha' : 0 ≤ a ∧ a ≤ (l.length : Int) - 1 := by omega
       simp [Qaq.f, Qaq.j0, Qaq.j1, Qaq.j2, Qaq.j3, Qbu, hw3, ha, ha']
     · have ha' : ¬ (0 ≤ a ∧ a ≤ (l.length : Int) - 1) := by omega
       simp [Qaq.f, Qaq.j0, Qaq.j1, Qaq.j2, Qaq.j3, Qbu, hw3, ha, ha']
   · rw [if_neg h9]
     obtain ⟨n, rfl⟩ := Int.eq_ofNat_of_zero_le (show 0 ≤ k by omega)
     rcases kinds18 (n := n) (by omega) (by omega) with rfl | rfl | rfl | rfl | rfl | rfl | rfl | rfl | rfl | rfl | rfl | rfl | rfl | rfl | rfl | rfl | rfl | rfl <;>
      first | exact absurd rfl h9 | rfl
 · rw [if_neg hk]
   have e : ∀ z : Int, 1 ≤ z → z ≤ 18 → ¬ k = z := fun z h1 h2 h => hk (by omega)
   simp [Qaq.f, Qaq.j0, Qaq.j1, Qaq.j2, Qaq.j3, e]
end Go.Proofs.Ytabcijheemjplaa.G
namespace Go.Proofs.Ytabcijheemjplaa.G
set_option linter.unusedSimpArgs false
open Go.RowKit Go.Proofs.YtabcijheemjplaaW.PrintWords Go.Proofs.YtabcijheemjplaaW.PrintLast Go.Proofs.YtabcijheemjplaaW.PrintMore
theorem rd_set {l : List Int} {k i v : Int} (hk : 0 ≤ k) (hkl : k < (l.length : Int)) (hi : 0 ≤ i) : rd (l.set k.toNat v) i = if i = k then v else rd l i := by
 unfold rd
 obtain ⟨k, rfl⟩ := Int.eq_ofNat_of_zero_le hk
 obtain ⟨i, rfl⟩ := Int.eq_ofNat_of_zero_le hi
 simp only [Int.toNat_natCast, List.getD_eq_getElem?_getD]
 by_cases e : i = k
 · subst e
   rw [List.getElem?_set_self (by omega), if_pos rfl]
   rfl
 · rw [List.getElem?_set_ne (by omega), if_neg (by omega)]
theorem progOk_facts {l : List Qae} (h : QbB l = true) : 1 ≤ l.length ∧ l.length ≤ 4 ∧ (Qaa l 0).f0 = 0 ∧ ∀ m ∈ l, (0 ≤ m.f0 ∧ m.f0 ≤ 2 ∧ m.f0 ≤ m.f1 ∧ m.f1 ≤ 4 ∧ m.f2.length ≤ 14) ∧ ∀ op ∈ m.f2, Qb8 l.length m.f1 m.f2.length op.f0 op.f1 = true := by
 unfold QbB at h
 split at h
 · rename_i c
   refine ⟨c.1, c.2.1, c.2.2, fun m hm => ?_⟩
   have hb : QaZ l.length m = false := by
    cases hx : QaZ l.length m with
    | false => rfl
    | true => rw [List.any_eq_true.mpr ⟨m, hm, hx⟩] at h; exact absurd h (by simp)
   unfold QaZ at hb
   split at hb
   · rename_i d
     refine ⟨d, fun op hop => ?_⟩
     cases hx : Qb8 l.length m.f1 m.f2.length op.f0 op.f1 with
     | true => rfl
     | false => rw [List.any_eq_true.mpr ⟨op, hop, by simp [hx]⟩] at hb; exact absurd hb (by simp)
   · exact absurd hb (by simp)
 · exact absurd h (by simp)
theorem opOk_jump {nl no : Nat} {y k a : Int} (h : Qb8 nl y no k a = true) : (1 ≤ k ∧ k ≤ 18) ∧ (k = 7 ∨ k = 8 → 0 ≤ a ∧ a < no) := by
 unfold Qb8 at h
 split at h
 · rename_i c
   refine ⟨c, fun hk => ?_⟩
   rcases hk with rfl | rfl <;> simp [mG, mMost] at h <;> omega
 · exact absurd h (by simp)
theorem takes_range {l : List Qae} (hl : ∀ m ∈ l, 0 ≤ m.f0 ∧ m.f0 ≤ 2) (k a : Int) : 0 ≤ (QbA l k a).1 ∧ (QbA l k a).1 ≤ 2 ∧ 0 ≤ (QbA l k a).2 ∧ (QbA l k a).2 ≤ 1 := by
 unfold QbA
 split
 · rename_i c
   split
   · split
     · rename_i d
       obtain ⟨a, rfl⟩ := Int.eq_ofNat_of_zero_le d.1
       rw [Qbl (by omega)]
       have := hl _ (List.getElem_mem (l := l) (n := a) (by omega))
       exact ⟨this.1, this.2, (by decide : (0 : Int) ≤ 1), (by decide : (1 : Int) ≤ 1)⟩
     · decide
   · obtain ⟨n, rfl⟩ := Int.eq_ofNat_of_zero_le (show 0 ≤ k by omega)
     rcases kinds18 (n := n) (by omega) (by omega) with rfl | rfl | rfl | rfl | rfl | rfl | rfl | rfl | rfl | rfl | rfl | rfl | rfl | rfl | rfl | rfl | rfl | rfl <;> decide
 · decide
def dB (l : List Qae) (k a d : Int) : Int := if (QbA l k a).1 > d then -1 else if d - (QbA l k a).1 + (QbA l k a).2 > 6 then -1 else d - (QbA l k a).1 + (QbA l k a).2
def nB (k a at_ : Int) : List Int := if k = 10 then [] else if k = 7 then [a] else if k = 8 then [at_ + 1, a] else [at_ + 1]
theorem l2Deep_tells {l : List Qae} (hn : l.length ≤ 1048576) (hl : ∀ m ∈ l, 0 ≤ m.f0 ∧ m.f0 ≤ 2) (k a d : Int) (h0 : -1 ≤ d) (h1 : d ≤ 6) : Ev (fun n => Qa7.f n l k a d) (dB l k a d) := by
 unfold Qa7.f dB
 have hr := takes_range hl k a
 refine Ev.bnd (specOpTakes_tells l k a hn) ?_
 rw [w64 (x := d - _) (by omega) (by omega), w64 (by omega) (by omega)]
 split
 · exact Ev.now _
 · split <;> exact Ev.now _
theorem l2Next_tells (k a at_ : Int) (h0 : 0 ≤ at_) (h1 : at_ ≤ 1048576) : QbC.f k a at_ = some (nB k a at_) := by
 unfold QbC.f nB
 rw [w64 (by omega) (by omega)]
 split
 · rfl
 · split
   · rfl
   · split <;> rfl
theorem next_tells (x y : Int) (ops : List Qac) (at_ : Int) (h0 : 0 ≤ at_) (h1 : at_ < ops.length) (hn : ops.length ≤ 1048576) : Qbg.f x y ops at_ = some (nB (Qah ops at_).f0 (Qah ops at_).f1 at_) := by
 unfold Qbg.f nB
 rw [if_pos h0, if_pos h1, w64 (by omega) (by omega)]
 by_cases e7 : (Qah ops at_).f0 = 7
 · rw [if_pos e7, if_neg (by omega), if_pos e7]
 · by_cases e8 : (Qah ops at_).f0 = 8
   · rw [if_neg e7, if_pos e8, if_neg (by omega), if_neg e7, if_pos e8]
   · by_cases e10 : (Qah ops at_).f0 = 10
     · rw [if_neg e7, if_neg e8, if_pos e10, if_pos e10]
     · rw [if_neg e7, if_neg e8, if_neg e10, if_neg e10, if_neg e7, if_neg e8]
def negs (out : List Int) : Nat := out.countP (fun x => decide (x < 0))
theorem negs_set {out : List Int} {k v : Int} (hk : 0 ≤ k) (hkl : k < (out.length : Int)) (hn : rd out k < 0) (hv : 0 ≤ v) : negs (out.set k.toNat v) + 1 = negs out := by
 unfold negs
 obtain ⟨k, rfl⟩ := Int.eq_ofNat_of_zero_le hk
 unfold rd at hn
 rw [rdget (by omega)] at hn
 have hp : 0 < out.countP (fun x => decide (x < 0)) := List.countP_pos_iff.mpr ⟨out[k]'(by omega), List.getElem_mem _, by simpa using hn⟩
 rw [Int.toNat_natCast, List.countP_set (by omega)]
 simp only [decide_eq_true hn, if_true, decide_eq_false (show ¬ v < 0 by omega)]
 simp
 omega
section
variable (l : List Qae) (x y : Int) (ops : List Qac)
def dAt (out : List Int) (i : Int) : Int := dB l (Qah ops i).f0 (Qah ops i).f1 (rd out i)
structure DInv (out todo : List Int) (most : Int) : Prop where
 len : out.length = ops.length
 rng : ∀ i : Int, 0 ≤ i → i < ops.length → -1 ≤ rd out i ∧ rd out i ≤ 6
 td : ∀ t ∈ todo, 0 ≤ t ∧ t < (ops.length : Int) ∧ 0 ≤ rd out t
 up : ∀ i : Int, 0 ≤ i → i < ops.length → 0 ≤ rd out i → i ∈ todo ∨ (0 ≤ dAt l ops out i ∧ rd out i ≤ most ∧ dAt l ops out i ≤ most)
 dn : 0 ≤ most ∧ (most = 0 ∨ ∃ i : Int, 0 ≤ i ∧ i < ops.length ∧ 0 ≤ rd out i ∧ (most = rd out i ∨ most = dAt l ops out i))
theorem DInv.more {l : List Qae} {ops : List Qac} {out todo : List Int} {most k v : Int} (h : DInv l ops out todo most) (hk : 0 ≤ k) (hkl : k < ops.length) (hn : rd out k < 0) (hv : 0 ≤ v) (hv6 : v ≤ 6) : DInv l ops (out.set k.toNat v) (todo ++ [k]) most := by
 have hlen := h.len
 have hrd : ∀ i : Int, 0 ≤ i → rd (out.set k.toNat v) i = if i = k then v else rd out i := fun i hi => rd_set hk (by omega) hi
 refine ⟨by simpa using h.len, fun i hi hil => ?_, fun t ht => ?_, fun i hi hil hr => ?_, h.dn.1, ?_⟩
 · rw [hrd i hi]
   have := h.rng i hi hil
   split <;> omega
 · rcases List.mem_append.mp ht with ht | ht
   · obtain ⟨a, b, c⟩ := h.td t ht
     refine ⟨a, b, ?_⟩
     rw [hrd t a]
     split <;> omega
   · obtain rfl := List.mem_singleton.mp ht
     refine ⟨hk, hkl, ?_⟩
     rw [hrd t hk, if_pos rfl]
     exact hv
 · by_cases e : i = k
   · exact .inl (List.mem_append.mpr (.inr (List.mem_singleton.mpr e)))
   · have e1 : rd (out.set k.toNat v) i = rd out i := by rw [hrd i hi, if_neg e]
     unfold dAt
     rw [e1] at hr ⊢
     rcases h.up i hi hil hr with h1 | h1
     · exact .inl (List.mem_append.mpr (.inl h1))
     · exact .inr h1
 · rcases h.dn.2 with h1 | ⟨i, hi, hil, hr, hm⟩
   · exact .inl h1
   · refine .inr ⟨i, hi, hil, ?_⟩
     have e : i ≠ k := fun e => by subst e; omega
     have e1 : rd (out.set k.toNat v) i = rd out i := by rw [hrd i hi, if_neg e]
     unfold dAt
     rw [e1]
     exact ⟨hr, hm⟩
structure DMove (n : Nat) (out todo out' todo' : List Int) : Prop where
 ext : ∀ i : Int, 0 ≤ i → i < n → 0 ≤ rd out i → rd out' i = rd out i
 sub : ∀ t, t ∈ todo → t ∈ todo'
 new : ∀ i : Int, 0 ≤ i → i < n → rd out i < 0 → 0 ≤ rd out' i → i ∈ todo'
theorem DMove.refl (n : Nat) (out todo : List Int) : DMove n out todo out todo := ⟨fun _ _ _ _ => rfl, fun _ h => h, fun i _ _ h1 h2 => absurd h2 (by omega)⟩
theorem DMove.trans {n : Nat} {o t o1 t1 o2 t2 : List Int} (h : DMove n o t o1 t1) (k : DMove n o1 t1 o2 t2) : DMove n o t o2 t2 :=
 ⟨fun i h0 h1 h2 => (k.ext i h0 h1 (by rw [h.ext i h0 h1 h2]; exact h2)).trans (h.ext i h0 h1 h2), fun x hx => k.sub x (h.sub x hx), fun i h0 h1 h2 h3 => by
  by_cases e : rd o1 i < 0
  · exact k.new i h0 h1 e h3
  · exact k.sub i (h.new i h0 h1 h2 (by omega))⟩
theorem DMove.put {n : Nat} {out todo : List Int} {k v : Int} (hl : out.length = n) (hk : 0 ≤ k) (hkl : k < n) (hneg : rd out k < 0) : DMove n out todo (out.set k.toNat v) (todo ++ [k]) := by
 have hrd : ∀ i : Int, 0 ≤ i → rd (out.set k.toNat v) i = if i = k then v else rd out i := fun i hi => rd_set hk (by omega) hi
 refine ⟨fun i h0 h1 h2 => ?_, fun t ht => List.mem_append.mpr (.inl ht), fun i h0 h1 h2 h3 => ?_⟩
 · rw [hrd i h0, if_neg (fun e => by subst e; omega)]
 · rw [hrd i h0] at h3
   split at h3
   · next e => exact List.mem_append.mpr (.inr (List.mem_singleton.mpr e))
   · omega
def DFl (l : List Qae) (ops : List Qac) (out todo : List Int) : Prop :=
 ∀ i : Int, 0 ≤ i → i < ops.length → 0 ≤ rd out i → i ∈ todo ∨ (0 ≤ dAt l ops out i ∧ ∀ k, k ∈ nB (Qah ops i).f0 (Qah ops i).f1 i → 0 ≤ k ∧ k < ops.length ∧ rd out k = dAt l ops out i)
def DFail (S : Nat → Option (List Int × Bool)) (M : Nat → Option (List Int × Int × Bool)) : Prop := ∃ o, Ev S (o, false) ∧ Ev M ([], 0, false)
theorem deep_inner (most deep : Int) (hd0 : 0 ≤ deep) (hd6 : deep ≤ 6) (at_ : Int) (nx : List Int) (hnx : nx.length ≤ 2) (hnx0 : ∀ i : Nat, i < nx.length → 0 ≤ rd nx i) (m : Nat) (hm : m ≤ 1000) :
 ∀ (d i : Nat) (out todo : List Int), nx.length - i = d → i ≤ nx.length → DInv l ops out todo most → todo.length + negs out ≤ m →
  DFail (fun k => Qat.l2 k out todo deep nx i l x y ops) (fun k => Qak.l2 k out most (at_ :: todo) deep nx nx.length i l x y ops) ∨
  ∃ out' todo', DInv l ops out' todo' most ∧ (DMove ops.length out todo out' todo' ∧ ∀ j : Nat, i ≤ j → j < nx.length → rd nx j < ops.length ∧ rd out' (rd nx j) = deep) ∧ todo'.length + negs out' ≤ m ∧ (∀ r, Ev (fun k => Qat.l1 k out' todo' l x y ops) r → Ev (fun k => Qat.l2 k out todo deep nx i l x y ops) r) ∧
   (∀ r, Ev (fun k => Qak.l1 k out' most todo' l x y ops) r → Ev (fun k => Qak.l2 k out most (at_ :: todo) deep nx nx.length i l x y ops) r) := by
 intro d
 induction d with
 | zero =>
   intro i out todo hd hi hI hm
   refine .inr ⟨out, todo, hI, ⟨DMove.refl _ _ _, fun j h1 h2 => by omega⟩, hm, fun r hr => ?_, fun r hr => ?_⟩
   · exact Ev.step (fun k => by rw [Qat.l2]) (Ev.ifn (by omega) (Ev.ifn (by omega) hr))
   · refine Ev.step (fun k => by rw [Qak.l2]) (Ev.ifn (by omega) (Ev.ifp (by simp; omega) ?_))
     exact hr
 | succ d ih =>
   intro i out todo hd hi hI hm
   have hlen := hI.len
   have hk0 := hnx0 i (by omega)
   by_cases hk : rd nx i ≥ (ops.length : Int)
   · refine .inl ⟨out, ?_, ?_⟩
     · exact Ev.step (fun k => by rw [Qat.l2]) (Ev.ifp (by omega) (Ev.ifp (by omega) (Ev.ifn (by omega) (Ev.ifp hk (Ev.step (fun k => by rw [Qat.j3]) (Ev.ifp rfl (Ev.now _)))))))
     · exact Ev.step (fun k => by rw [Qak.l2]) (Ev.ifp (by omega) (Ev.ifp (by omega) (Ev.ifp (by omega) (Ev.ifp hk (Ev.now _)))))
   · have hr := hI.rng (rd nx i) hk0 (by omega)
     by_cases hneg : rd out (rd nx i) < 0
     · have hng := negs_set (out := out) (k := rd nx i) (v := deep) hk0 (by omega) hneg hd0
       have ec : ((i + 1 : Nat) : Int) = (i : Int) + 1 := by omega
       rcases ih (i + 1) (out.set (rd nx i).toNat deep) (todo ++ [rd nx i]) (by omega) (by omega) (hI.more hk0 (by omega) hneg hd0 hd6) (by simp; omega) with ⟨o, h1, h2⟩ | ⟨o, t, hI', ⟨hMv, hNx⟩, hm', h1, h2⟩
       · refine .inl ⟨o, ?_, ?_⟩
         · refine Ev.step (fun k => by rw [Qat.l2]) (Ev.ifp (by omega) (Ev.ifp (by omega) (Ev.ifn (by omega) (Ev.ifn hk (Ev.ifp hk0 (Ev.ifp (by omega) (Ev.ifn (by omega) (Ev.step (fun k => by rw [Qat.j3]) (Ev.ifn (by simp) (Ev.ifp hk0 (Ev.ifp (by omega) (Ev.ifp hneg (Ev.ifp (by omega) ?_)))))))))))))
           rw [w64 (by omega) (by omega), ← ec]
           exact h1
         · refine Ev.step (fun k => by rw [Qak.l2]) (Ev.ifp (by omega) (Ev.ifp (by omega) (Ev.ifp (by omega) (Ev.ifn hk (Ev.ifp hk0 (Ev.ifp (by omega) (Ev.ifp hneg (Ev.ifp (by simp; omega) ?_))))))))
           rw [w64 (by omega) (by omega), ← ec]
           exact h2
       · refine .inr ⟨o, t, hI', ⟨(DMove.put hlen hk0 (by omega) hneg).trans hMv, fun j h1 h2 => ?_⟩, hm', fun r hr => ?_, fun r hr => ?_⟩
         · by_cases e : j = i
           · subst e
             have e2 : rd (out.set (rd nx j).toNat deep) (rd nx j) = deep := by rw [rd_set hk0 (by omega) hk0, if_pos rfl]
             exact ⟨by omega, (hMv.ext _ hk0 (by omega) (by rw [e2]; exact hd0)).trans e2⟩
           · exact hNx j (by omega) h2
         · refine Ev.step (fun k => by rw [Qat.l2]) (Ev.ifp (by omega) (Ev.ifp (by omega) (Ev.ifn (by omega) (Ev.ifn hk (Ev.ifp hk0 (Ev.ifp (by omega) (Ev.ifn (by omega) (Ev.step (fun k => by rw [Qat.j3]) (Ev.ifn (by simp) (Ev.ifp hk0 (Ev.ifp (by omega) (Ev.ifp hneg (Ev.ifp (by omega) ?_)))))))))))))
           rw [w64 (by omega) (by omega), ← ec]
           exact h1 r hr
         · refine Ev.step (fun k => by rw [Qak.l2]) (Ev.ifp (by omega) (Ev.ifp (by omega) (Ev.ifp (by omega) (Ev.ifn hk (Ev.ifp hk0 (Ev.ifp (by omega) (Ev.ifp hneg (Ev.ifp (by simp; omega) ?_))))))))
           rw [w64 (by omega) (by omega), ← ec]
           exact h2 r hr
     · by_cases heq : rd out (rd nx i) = deep
       · have ec : ((i + 1 : Nat) : Int) = (i : Int) + 1 := by omega
         have eb : (rd out (rd nx i) != deep) = false := by simp [heq]
         have hS : ∀ r, Ev (fun k => Qat.l2 k out todo deep nx ((i + 1 : Nat) : Int) l x y ops) r → Ev (fun k => Qat.l2 k out todo deep nx i l x y ops) r := fun r hr => by
          refine Ev.step (fun k => by rw [Qat.l2]) (Ev.ifp (by omega) (Ev.ifp (by omega) (Ev.ifn (by omega) (Ev.ifn hk (Ev.ifp hk0 (Ev.ifp (by omega) (Ev.ifp (by omega) ?_)))))))
          rw [eb]
          refine Ev.step (fun k => by rw [Qat.j3]) (Ev.ifn (by simp) (Ev.ifp hk0 (Ev.ifp (by omega) (Ev.ifn hneg ?_))))
          rw [w64 (by omega) (by omega), ← ec]
          exact hr
         have hM : ∀ r, Ev (fun k => Qak.l2 k out most (at_ :: todo) deep nx nx.length ((i + 1 : Nat) : Int) l x y ops) r → Ev (fun k => Qak.l2 k out most (at_ :: todo) deep nx nx.length i l x y ops) r := fun r hr => by
          refine Ev.step (fun k => by rw [Qak.l2]) (Ev.ifp (by omega) (Ev.ifp (by omega) (Ev.ifp (by omega) (Ev.ifn hk (Ev.ifp hk0 (Ev.ifp (by omega) (Ev.ifn hneg (Ev.ifp heq ?_))))))))
          rw [w64 (by omega) (by omega), ← ec]
          exact hr
         rcases ih (i + 1) out todo (by omega) (by omega) hI hm with ⟨o, h1, h2⟩ | ⟨o, t, hI', ⟨hMv, hNx⟩, hm', h1, h2⟩
         · exact .inl ⟨o, hS _ h1, hM _ h2⟩
         · refine .inr ⟨o, t, hI', ⟨hMv, fun j k1 k2 => ?_⟩, hm', fun r hr => hS r (h1 r hr), fun r hr => hM r (h2 r hr)⟩
           by_cases e : j = i
           · subst e
             exact ⟨by omega, (hMv.ext _ hk0 (by omega) (by omega)).trans heq⟩
           · exact hNx j (by omega) k2
       · refine .inl ⟨out, ?_, ?_⟩
         · have eb : (rd out (rd nx i) != deep) = true := by simp [heq]
           refine Ev.step (fun k => by rw [Qat.l2]) (Ev.ifp (by omega) (Ev.ifp (by omega) (Ev.ifn (by omega) (Ev.ifn hk (Ev.ifp hk0 (Ev.ifp (by omega) (Ev.ifp (by omega) ?_)))))))
           rw [eb]
           exact Ev.step (fun k => by rw [Qat.j3]) (Ev.ifp rfl (Ev.now _))
         · exact Ev.step (fun k => by rw [Qak.l2]) (Ev.ifp (by omega) (Ev.ifp (by omega) (Ev.ifp (by omega) (Ev.ifn hk (Ev.ifp hk0 (Ev.ifp (by omega) (Ev.ifn hneg (Ev.ifn heq (Ev.now _)))))))))
theorem deep_rounds (hl4 : l.length ≤ 4) (hl : ∀ m ∈ l, 0 ≤ m.f0 ∧ m.f0 ≤ 2) (hn : ops.length ≤ 14) (hj : ∀ i : Int, 0 ≤ i → i < ops.length → (Qah ops i).f0 = 7 ∨ (Qah ops i).f0 = 8 → 0 ≤ (Qah ops i).f1) :
 ∀ (m : Nat) (out todo : List Int) (most : Int), m ≤ 1000 → DInv l ops out todo most → DFl l ops out todo → todo.length + negs out ≤ m →
  DFail (fun k => Qat.l1 k out todo l x y ops) (fun k => Qak.l1 k out most todo l x y ops) ∨
  ∃ out' most', DInv l ops out' [] most' ∧ (DFl l ops out' [] ∧ ∀ i : Int, 0 ≤ i → i < ops.length → 0 ≤ rd out i → rd out' i = rd out i) ∧ Ev (fun k => Qat.l1 k out todo l x y ops) (out', true) ∧ Ev (fun k => Qak.l1 k out most todo l x y ops) (out', most', true) := by
 intro m
 induction m with
 | zero =>
   intro out todo most _ hI hF hm
   obtain rfl : todo = [] := List.eq_nil_of_length_eq_zero (by omega)
   exact .inr ⟨out, most, hI, ⟨hF, fun _ _ _ _ => rfl⟩, Ev.step (fun k => by rw [Qat.l1]) (Ev.ifn (by simp) (Ev.now _)), Ev.step (fun k => by rw [Qak.l1]) (Ev.ifn (by simp) (Ev.now _))⟩
 | succ m ih =>
   intro out todo most hm1 hI hF hm
   cases todo with
   | nil => exact .inr ⟨out, most, hI, ⟨hF, fun _ _ _ _ => rfl⟩, Ev.step (fun k => by rw [Qat.l1]) (Ev.ifn (by simp) (Ev.now _)), Ev.step (fun k => by rw [Qak.l1]) (Ev.ifn (by simp) (Ev.now _))⟩
   | cons at_ rest =>
     have hlen := hI.len
     obtain ⟨ha0, hal, har⟩ := hI.td at_ (List.mem_cons_self ..)
     have hrg := hI.rng at_ ha0 hal
     have e0 : rd (at_ :: rest) 0 = at_ := rfl
     have hlr : rest.length + 1 + negs out ≤ m + 1 := by simpa using hm
     have htr := takes_range hl (Qah ops at_).f0 (Qah ops at_).f1
     have hsz : ((at_ :: rest).length : Int) = (rest.length : Int) + 1 := by simp
     have hdeep := l2Deep_tells (by omega) hl (Qah ops at_).f0 (Qah ops at_).f1 (rd out at_) (by omega) (by omega)
     have hnext := l2Next_tells (Qah ops at_).f0 (Qah ops at_).f1 at_ ha0 (by omega)
     have hnxl : (nB (Qah ops at_).f0 (Qah ops at_).f1 at_).length ≤ 2 := by unfold nB; split; · simp
                                                                             · split; · simp
                                                                               · split <;> simp
     have hnx0 : ∀ i : Nat, i < (nB (Qah ops at_).f0 (Qah ops at_).f1 at_).length → 0 ≤ rd (nB (Qah ops at_).f0 (Qah ops at_).f1 at_) i := by
      intro i hi
      have hj' := hj at_ ha0 hal
      unfold rd
      rw [rdget hi]
      have hmem := List.getElem_mem hi
      revert hmem
      generalize (nB (Qah ops at_).f0 (Qah ops at_).f1 at_)[i] = z
      unfold nB
      split
      · simp
      · split
        · rename_i h7
          intro hmem
          obtain rfl := List.mem_singleton.mp hmem
          exact hj' (.inl h7)
        · split
          · rename_i h8
            intro hmem
            rcases List.mem_cons.mp hmem with rfl | hmem
            · omega
            · obtain rfl := List.mem_singleton.mp hmem
              exact hj' (.inr h8)
          · intro hmem
            obtain rfl := List.mem_singleton.mp hmem
            omega
     have hS : ∀ r, Ev (fun k => Qat.l2 k out rest (dAt l ops out at_) (nB (Qah ops at_).f0 (Qah ops at_).f1 at_) 0 l x y ops) r → Ev (fun k => Qat.l1 k out (at_ :: rest) l x y ops) r := fun r hr => by
      refine Ev.step (fun k => by rw [Qat.l1]) ?_
      refine Ev.ifp (by omega) (Ev.ifp (by omega) ?_)
      refine Ev.bindc rfl (Ev.ifp (by omega) ?_)
      refine Ev.bindc rfl (Ev.ifp (by simp; omega) ?_)
      rw [e0]
      refine Ev.ifp (by omega) (Ev.ifp (by omega) (Ev.ifp (by omega) ?_))
      refine Ev.bnd hdeep ?_
      refine Ev.bindc hnext ?_
      exact hr
     have hto := Qb5 l (Qah ops at_).f0 (Qah ops at_).f1
     by_cases hbad : dAt l ops out at_ < 0
     · refine .inl ?_
       have hSf : ∃ o, Ev (fun k => Qat.l2 k out rest (dAt l ops out at_) (nB (Qah ops at_).f0 (Qah ops at_).f1 at_) 0 l x y ops) (o, false) := by
        by_cases hz : (0 : Int) < (nB (Qah ops at_).f0 (Qah ops at_).f1 at_).length
        · exact ⟨out, Ev.step (fun k => by rw [Qat.l2]) (Ev.ifp hz (Ev.ifp (by omega) (Ev.ifp hbad (Ev.step (fun k => by rw [Qat.j3]) (Ev.ifp rfl (Ev.now _))))))⟩
        · exact ⟨out, Ev.step (fun k => by rw [Qat.l2]) (Ev.ifn hz (Ev.ifp hbad (Ev.now _)))⟩
       obtain ⟨o, ho⟩ := hSf
       refine ⟨o, hS _ ho, ?_⟩
       refine Ev.step (fun k => by rw [Qak.l1]) (Ev.ifp (by omega) (Ev.ifp (by omega) (Ev.ifp (by omega) (Ev.ifp (by omega) ?_))))
       rw [e0]
       refine Ev.bindc hto (Ev.ifp (by omega) ?_)
       unfold dAt dB at hbad
       by_cases hgt : (QbA l (Qah ops at_).f0 (Qah ops at_).f1).1 > rd out at_
       · exact Ev.ifp hgt (Ev.step (fun k => by rw [Qak.j3]) (Ev.ifp rfl (Ev.now _)))
       · rw [if_neg hgt] at hbad
         have h6 : rd out at_ - (QbA l (Qah ops at_).f0 (Qah ops at_).f1).1 + (QbA l (Qah ops at_).f0 (Qah ops at_).f1).2 > 6 := by
          by_cases h6 : rd out at_ - (QbA l (Qah ops at_).f0 (Qah ops at_).f1).1 + (QbA l (Qah ops at_).f0 (Qah ops at_).f1).2 > 6
          · exact h6
          · rw [if_neg h6] at hbad
            omega
         rw [w64 (x := rd out at_ - _) (by omega) (by omega), w64 (by omega) (by omega), decide_eq_true h6]
         exact Ev.ifn hgt (Ev.step (fun k => by rw [Qak.j3]) (Ev.ifp rfl (Ev.now _)))
     · have hgt : ¬ (QbA l (Qah ops at_).f0 (Qah ops at_).f1).1 > rd out at_ := fun h => hbad (by unfold dAt dB; rw [if_pos h]; omega)
       have h6 : ¬ rd out at_ - (QbA l (Qah ops at_).f0 (Qah ops at_).f1).1 + (QbA l (Qah ops at_).f0 (Qah ops at_).f1).2 > 6 := fun h => hbad (by unfold dAt dB; rw [if_neg hgt, if_pos h]; omega)
       have hdv : dAt l ops out at_ = rd out at_ - (QbA l (Qah ops at_).f0 (Qah ops at_).f1).1 + (QbA l (Qah ops at_).f0 (Qah ops at_).f1).2 := by unfold dAt dB; rw [if_neg hgt, if_neg h6]
       have hM : ∀ r, Ev (fun k => Qak.l2 k out (mx (mx most (rd out at_)) (dAt l ops out at_)) (at_ :: rest) (dAt l ops out at_) (nB (Qah ops at_).f0 (Qah ops at_).f1 at_) (nB (Qah ops at_).f0 (Qah ops at_).f1 at_).length 0 l x y ops) r → Ev (fun k => Qak.l1 k out most (at_ :: rest) l x y ops) r := fun r hr => by
        refine Ev.step (fun k => by rw [Qak.l1]) (Ev.ifp (by omega) (Ev.ifp (by omega) (Ev.ifp (by omega) (Ev.ifp (by omega) ?_))))
        rw [e0]
        refine Ev.bindc hto (Ev.ifp (by omega) (Ev.ifn hgt ?_))
        rw [w64 (x := rd out at_ - _) (by omega) (by omega), w64 (by omega) (by omega), decide_eq_false h6, ← hdv]
        refine Ev.step (fun k => by rw [Qak.j3]) (Ev.ifn (by simp) (Ev.ifp ha0 (Ev.ifp (by omega) ?_)))
        exact Ev.bindc (next_tells x y ops at_ ha0 hal (by omega)) hr
       have hI' : DInv l ops out rest (mx (mx most (rd out at_)) (dAt l ops out at_)) := by
        refine ⟨hlen, hI.rng, fun t ht => hI.td t (List.mem_cons_of_mem _ ht), fun i hi hil hr => ?_, ?_, ?_⟩
        · rcases hI.up i hi hil hr with h1 | ⟨h1, h2, h3⟩
          · rcases List.mem_cons.mp h1 with rfl | h1
            · refine .inr ⟨by omega, ?_, ?_⟩ <;> (unfold mx; split <;> (try split at * <;> omega) <;> omega)
            · exact .inl h1
          · refine .inr ⟨h1, ?_, ?_⟩ <;> (unfold mx; split <;> (try split at * <;> omega) <;> omega)
        · have := hI.dn.1
          unfold mx
          split <;> (try split at * <;> omega) <;> omega
        · have hc : mx (mx most (rd out at_)) (dAt l ops out at_) = most ∨ mx (mx most (rd out at_)) (dAt l ops out at_) = rd out at_ ∨ mx (mx most (rd out at_)) (dAt l ops out at_) = dAt l ops out at_ := by
           unfold mx
           split <;> split <;> simp
          rcases hc with h | h | h
          · rw [h]
            exact hI.dn.2
          · exact .inr ⟨at_, ha0, hal, har, .inl h⟩
          · exact .inr ⟨at_, ha0, hal, har, .inr h⟩
       rcases deep_inner l x y ops _ (dAt l ops out at_) (by omega) (by omega) at_ _ hnxl hnx0 m (by omega) _ 0 out rest rfl (by omega) hI' (by omega) with ⟨o, h1, h2⟩ | ⟨o, t, hI2, ⟨hMv, hNx⟩, hm2, h1, h2⟩
       · exact .inl ⟨o, hS _ h1, hM _ h2⟩
       · have eqd : ∀ i : Int, 0 ≤ i → i < ops.length → 0 ≤ rd out i → dAt l ops o i = dAt l ops out i := fun i h0 h1 h2 => by
          unfold dAt
          rw [hMv.ext i h0 h1 h2]
         have hF2 : DFl l ops o t := by
          intro i hi hil hr
          by_cases hro : 0 ≤ rd out i
          · rcases hF i hi hil hro with hin | ⟨hd, hfl⟩
            · rcases List.mem_cons.mp hin with rfl | hin
              · refine .inr ⟨by rw [eqd i hi hil hro]; omega, fun k hk => ?_⟩
                obtain ⟨j, hj, rfl⟩ := List.mem_iff_getElem.mp hk
                have hz := hNx j (Nat.zero_le _) hj
                have hz0 := hnx0 j hj
                have er : rd (nB (Qah ops i).f0 (Qah ops i).f1 i) j = (nB (Qah ops i).f0 (Qah ops i).f1 i)[j] := by
                 unfold rd
                 rw [rdget hj]
                rw [er] at hz hz0
                exact ⟨hz0, hz.1, by rw [hz.2, eqd i hi hil hro]⟩
              · exact .inl (hMv.sub i hin)
            · refine .inr ⟨by rw [eqd i hi hil hro]; exact hd, fun k hk => ?_⟩
              obtain ⟨a1, a2, a3⟩ := hfl k hk
              exact ⟨a1, a2, by rw [hMv.ext k a1 a2 (by omega), a3, eqd i hi hil hro]⟩
          · exact .inl (hMv.new i hi hil (by omega) hr)
         rcases ih o t _ (by omega) hI2 hF2 hm2 with ⟨o2, g1, g2⟩ | ⟨o2, m2, hI3, ⟨hF3, hE3⟩, g1, g2⟩
         · exact .inl ⟨o2, hS _ (h1 _ g1), hM _ (h2 _ g2)⟩
         · exact .inr ⟨o2, m2, hI3, ⟨hF3, fun i h0 h1 h2 => (hE3 i h0 h1 (by rw [hMv.ext i h0 h1 h2]; exact h2)).trans (hMv.ext i h0 h1 h2)⟩, hS _ (h1 _ g1), hM _ (h2 _ g2)⟩
end
end Go.Proofs.Ytabcijheemjplaa.G
namespace Go.Proofs.Ytabcijheemjplaa.G
set_option linter.unusedSimpArgs false
open Go.RowKit Go.Proofs.YtabcijheemjplaaW.PrintWords Go.Proofs.YtabcijheemjplaaW.PrintLast Go.Proofs.YtabcijheemjplaaW.PrintMore
theorem in_tells (a b c : Int) : Qcx.f a b c = some (decide (b ≤ a ∧ a ≤ c)) := Qbu a b c
theorem spec_fill (l : List Qae) (x y : Int) (ops : List Qac) (hn : ops.length ≤ 1048576) (r : List Int × Bool) : ∀ (d i : Nat), ops.length - i = d → i ≤ ops.length →
 Ev (fun k => Qat.l0 k (List.replicate ops.length (-1)) ops.length l x y ops) r → Ev (fun k => Qat.l0 k (List.replicate i (-1)) i l x y ops) r := by
 intro d
 induction d with
 | zero =>
   intro i hd hi h
   obtain rfl : i = ops.length := by omega
   exact h
 | succ d ih =>
   intro i hd hi h
   refine Ev.step (fun k => by rw [Qat.l0]) (Ev.ifp (by omega) (Ev.ifp (by simp; omega) ?_))
   rw [w64 (by omega) (by omega), ← List.replicate_succ']
   exact ih (i + 1) (by omega) (by omega) h
theorem impl_fill (l : List Qae) (x y : Int) (ops : List Qac) (hn : ops.length ≤ 1048576) (r : List Int × Int × Bool)
 (h : Ev (fun k => Qak.l0 k (List.replicate ops.length (-1)) ops.length ops.length l x y ops) r) : ∀ (d i : Nat), ops.length - i = d → i ≤ ops.length →
 Ev (fun k => Qak.l0 k (List.replicate i (-1) ++ List.replicate (ops.length - i) 0) ops.length i l x y ops) r := by
 intro d
 induction d with
 | zero =>
   intro i hd hi
   obtain rfl : i = ops.length := by omega
   rw [Nat.sub_self, List.replicate_zero, List.append_nil]
   exact h
 | succ d ih =>
   intro i hd hi
   refine Ev.step (fun k => by rw [Qak.l0]) (Ev.ifp (by omega) (Ev.ifp (by omega) (Ev.ifp (by simp; omega) ?_)))
   rw [w64 (by omega) (by omega)]
   have e : (List.replicate i (-1 : Int) ++ List.replicate (ops.length - i) 0).set (i : Int).toNat (-1) = List.replicate (i + 1) (-1) ++ List.replicate (ops.length - (i + 1)) 0 := by
    have e1 : ops.length - i = (ops.length - (i + 1)) + 1 := by omega
    rw [e1, List.replicate_succ, Int.toNat_natCast, List.set_append_right _ _ (by simp), List.length_replicate, Nat.sub_self, List.set_cons_zero, List.replicate_succ', List.append_assoc]
    rfl
   rw [e]
   exact ih (i + 1) (by omega) (by omega)
theorem rd_replicate (n : Nat) (v i : Int) (h0 : 0 ≤ i) (h1 : i < n) : rd (List.replicate n v) i = v := by
 obtain ⟨i, rfl⟩ := Int.eq_ofNat_of_zero_le h0
 unfold rd
 rw [rdget (by simp; omega), List.getElem_replicate]
theorem deep_start (l : List Qae) (ops : List Qac) (hz : 0 < ops.length) : DInv l ops ((List.replicate ops.length (-1)).set (0 : Int).toNat 0) [0] 0 := by
 have hrd : ∀ i : Int, 0 ≤ i → i < ops.length → rd ((List.replicate ops.length (-1)).set (0 : Int).toNat 0) i = if i = 0 then 0 else -1 := fun i hi hil => by
  rw [rd_set (by omega) (by simp; omega) hi, rd_replicate _ _ _ hi hil]
 refine ⟨by simp, fun i hi hil => ?_, fun t ht => ?_, fun i hi hil hr => ?_, by omega, .inl rfl⟩
 · rw [hrd i hi hil]
   split <;> omega
 · obtain rfl := List.mem_singleton.mp ht
   rw [hrd 0 (by omega) (by omega)]
   simp
   omega
 · rw [hrd i hi hil] at hr
   split at hr
   · rename_i e
     exact .inl (by simp [e])
   · omega
theorem deep_start_fl (l : List Qae) (ops : List Qac) (hz : 0 < ops.length) : DFl l ops ((List.replicate ops.length (-1)).set (0 : Int).toNat 0) [0] := by
 intro i hi hil hr
 rw [rd_set (by omega) (by simp; omega) hi, rd_replicate _ _ _ hi hil] at hr
 split at hr
 · next e => exact .inl (by simp [e])
 · omega
theorem deepAt_both (l : List Qae) (hf : fewI l) (a : Int) :
 (Ev (fun k => QaF.f k l a) ([], false) ∧ Ev (fun k => Qak.f k l a) ([], 0, false)) ∨
 ∃ out most, QbB l = true ∧ (0 ≤ a ∧ a < l.length) ∧ DInv l (Qaa l a).f2 out [] most ∧ (DFl l (Qaa l a).f2 out [] ∧ 0 < (Qaa l a).f2.length ∧ rd out 0 = 0) ∧ Ev (fun k => QaF.f k l a) (out, true) ∧ Ev (fun k => Qak.f k l a) (out, most, true) := by
 have hl1 := hf.1
 have hw : wrap64 ((l.length : Int) - 1) = (l.length : Int) - 1 := w64 (by omega) (by omega)
 cases hok : QbB l with
 | false =>
   refine .inl ⟨?_, ?_⟩
   · unfold QaF.f
     exact Ev.bnd (hok ▸ Qb9 l hf) (Ev.ifn (by simp) (Ev.step (fun k => by rw [QaF.j0]) (Ev.ifp rfl (Ev.now _))))
   · unfold Qak.f Qbm.f
     rw [hok]
     exact Ev.bindc rfl (Ev.ifn (by simp) (Ev.step (fun k => by rw [Qak.j0]) (Ev.ifp rfl (Ev.now _))))
 | true =>
   obtain ⟨f1, f4, -, fm⟩ := progOk_facts hok
   by_cases ha : 0 ≤ a ∧ a ≤ (l.length : Int) - 1
   · obtain ⟨n, rfl⟩ := Int.eq_ofNat_of_zero_le ha.1
     have hm : Qaa l (n : Int) ∈ l := by rw [Qbl (by omega)]; exact List.getElem_mem _
     obtain ⟨⟨-, -, -, -, h14⟩, hop⟩ := fm _ hm
     have hS0 : ∀ r, Ev (fun k => (Qat.f k l (Qaa l n).f0 (Qaa l n).f1 (Qaa l n).f2).bind fun bt108 => (if bt108.2 = true then (some (bt108.1, true)) else (some ((([] : List Int)), false)))) r → Ev (fun k => QaF.f k l n) r := fun r hr => by
      unfold QaF.f
      refine Ev.bnd (hok ▸ Qb9 l hf) (Ev.ifp rfl ?_)
      rw [hw]
      refine Ev.bindc (Qbu _ _ _) (Ev.step (fun k => by rw [QaF.j0]) (Ev.ifn (by simp only [decide_eq_true ha]; simp) (Ev.ifp (by omega) (Ev.ifp (by omega) ?_))))
      exact hr
     have hM0 : ∀ r, Ev (fun k => Qak.j0 k n ((((Qaa l n).f2).length : Int) == 0) l) r → Ev (fun k => Qak.f k l n) r := fun r hr => by
      unfold Qak.f Qbm.f
      rw [hok, hw]
      exact Ev.bindc rfl (Ev.ifp rfl (Ev.bindc (in_tells _ _ _) (Ev.ifp (decide_eq_true ha) (Ev.ifp (by omega) (Ev.ifp (by omega) hr)))))
     generalize hops : (Qaa l n).f2 = ops at *
     have hS1 : ∀ r, Ev (fun k => Qat.l0 k (List.replicate ops.length (-1)) ops.length l (Qaa l n).f0 (Qaa l n).f1 ops) r → Ev (fun k => Qat.f k l (Qaa l n).f0 (Qaa l n).f1 ops) r := fun r hr => by
      unfold Qat.f
      exact spec_fill l _ _ ops (by omega) r _ 0 rfl (by omega) hr
     by_cases hz : ops.length = 0
     · refine .inl ⟨hS0 _ (Ev.bnd (hS1 _ (Ev.step (fun k => by rw [Qat.l0]) (Ev.ifn (by omega) (Ev.ifp (by omega) (Ev.now _))))) (Ev.ifn (by simp) (Ev.now _))), hM0 _ ?_⟩
       exact Ev.step (fun k => by rw [Qak.j0]) (Ev.ifp (by simp [hz]) (Ev.now _))
     · have hM1 : ∀ r, Ev (fun k => Qak.l1 k ((List.replicate ops.length (-1)).set (0 : Int).toNat 0) 0 [0] l (Qaa l n).f0 (Qaa l n).f1 ops) r → Ev (fun k => Qak.f k l n) r := fun r hr => by
        refine hM0 _ (Ev.step (fun k => by rw [Qak.j0]) ?_)
        rw [hops]
        refine Ev.ifn (by simp only [beq_iff_eq]; omega) (Ev.ifp (by omega) (Ev.ifp (by omega) (Ev.ifp (by omega) (Ev.ifp (by omega) ?_))))
        refine Ev.bindc rfl ?_
        rw [Int.toNat_natCast, List.length_replicate]
        have := impl_fill l (Qaa l n).f0 (Qaa l n).f1 ops (by omega) r (Ev.step (fun k => by rw [Qak.l0]) (Ev.ifn (by omega) (Ev.ifp (by simp; omega) hr))) _ 0 rfl (by omega)
        exact this
       have hSr : ∀ r, Ev (fun k => Qat.l1 k ((List.replicate ops.length (-1)).set (0 : Int).toNat 0) [0] l (Qaa l n).f0 (Qaa l n).f1 ops) r → Ev (fun k => Qat.f k l (Qaa l n).f0 (Qaa l n).f1 ops) r := fun r hr =>
        hS1 _ (Ev.step (fun k => by rw [Qat.l0]) (Ev.ifn (by omega) (Ev.ifn (by omega) (Ev.ifp (by simp; omega) hr))))
       have hng : negs ((List.replicate ops.length (-1 : Int)).set (0 : Int).toNat 0) ≤ 14 := by
        unfold negs
        refine Nat.le_trans List.countP_le_length ?_
        simp
        exact h14
       rcases deep_rounds l (Qaa l n).f0 (Qaa l n).f1 ops f4 (fun m hm => ⟨(fm m hm).1.1, (fm m hm).1.2.1⟩) h14 (fun i hi hil hk => by
        obtain ⟨i, rfl⟩ := Int.eq_ofNat_of_zero_le hi
        rw [Qca (by omega)] at hk ⊢
        exact ((opOk_jump (hop _ (List.getElem_mem _))).2 hk).1) 15 _ [0] 0 (by omega) (deep_start l ops (by omega)) (deep_start_fl l ops (by omega)) (by simp only [List.length_cons, List.length_nil]; omega) with ⟨o, h1, h2⟩ | ⟨o, m2, hI, ⟨hF, hE⟩, h1, h2⟩
       · exact .inl ⟨hS0 _ (Ev.bnd (hSr _ h1) (Ev.ifn (by simp) (Ev.now _))), hM1 _ h2⟩
       · have hz0 : rd ((List.replicate ops.length (-1 : Int)).set (0 : Int).toNat 0) 0 = 0 := by rw [rd_set (by omega) (by simp; omega) (by omega), if_pos rfl]
         exact .inr ⟨o, m2, rfl, ⟨ha.1, by have := ha.2; omega⟩, hI, ⟨hF, by omega, by rw [hE 0 (by omega) (by omega) (by rw [hz0]; omega), hz0]⟩, hS0 _ (Ev.bnd (hSr _ h1) (Ev.ifp rfl (Ev.now _))), hM1 _ h2⟩
   · refine .inl ⟨?_, ?_⟩
     · unfold QaF.f
       refine Ev.bnd (hok ▸ Qb9 l hf) (Ev.ifp rfl ?_)
       rw [hw]
       exact Ev.bindc (Qbu _ _ _) (Ev.step (fun k => by rw [QaF.j0]) (Ev.ifp (by rw [decide_eq_false ha]; rfl) (Ev.now _)))
     · unfold Qak.f Qbm.f
       rw [hok, hw]
       exact Ev.bindc rfl (Ev.ifp rfl (Ev.bindc (in_tells _ _ _) (Ev.ifn (by simpa using ha) (Ev.step (fun k => by rw [Qak.j0]) (Ev.ifp rfl (Ev.now _))))))
end Go.Proofs.Ytabcijheemjplaa.G
namespace Go.Proofs.Ytabcijheemjplaa.G
open Go.RowKit Go.Proofs.YtabcijheemjplaaW.PrintWords Go.Proofs.YtabcijheemjplaaW.PrintLast Go.Proofs.YtabcijheemjplaaW.PrintMore
attribute [local go_sem] QaP QaQ Qa2 Qa3 QaJ QaK QaR QaS
set_option linter.unusedVariables false
set_option linter.unusedSimpArgs false
theorem lmInts_self (l : List Int) (hl : l.length ≤ 1048576) : Ev (fun k => Qa4.f k l l) true := by
 unfold Qa4.f
 refine Ev.ifp rfl ?_
 refine ev_all (fun k i => Qa4.l0 k l l i) l.length true (fun i hi r hr => ?_) (Ev.step (fun k => by rw [Qa4.l0]) (Ev.ifn (by omega) (Ev.now _)))
 refine Ev.step (fun k => by rw [Qa4.l0]) (Ev.ifp (by omega) (Ev.ifp (by omega) (Ev.ifp (by omega) (Ev.ifp rfl ?_))))
 rw [w64 (by omega) (by omega)]
 exact hr
theorem lmInts_n (A B : Option Addr) (c d n m : Nat) (l : List Int) (hn : l.length = n) (hm : l.length = m) (hl : l.length ≤ 1048576) (w : World) (hr : Kd.C (Kd.int .i64) w A l.length l) (hc : l.length ≤ c) (hr1 : Kd.C (Kd.int .i64) w B l.length l) (hc1 : l.length ≤ d) :
 Calls Try.prog 18 #[.slice A n c, .slice B m d] w fun e w' => e = .returned (.bool true) ∧ Below w.heap.size w w' := by
 subst hn
 subst hm
 obtain ⟨n, hn⟩ := (lmInts_self l hl).rounds
 exact (Qa4.calls n A c l B d l true w hr hc hr1 hc1 hn).mono fun e w' ⟨he, m, hb⟩ => ⟨he, hb ▸ Qar (Below.refl _ _) m⟩
end Go.Proofs.Ytabcijheemjplaa.G
