/- The library's Compact on a row of integers that is owned; sorted sets of integers. -/
import Derived.Test.YtccjolaolmpifaaDoorSn
import Derived.Ground.Names2Prog
import Derived.Shelf.Slices.CompactI
import Derived.Test.YtccjolaolmpifaaDoorProg
namespace Go.Proofs.YtccjolaolmpifaaDoor
set_option linter.unusedSimpArgs false
set_option linter.unusedVariables false
open Go.Shelf Go.Sort
def Tryd.laysCompact_ren : Go.Shelf.Ren := ⟨fun | 20 => 48 | n => n, fun | 22 => 43 | 3 => 3 | 4 => 4 | 0 => 0 | n => n, fun | n => n⟩
theorem Tryd.laysCompact : Go.Proofs.Lays2.n20 Tryd.prog Tryd.laysCompact_ren := {
  mixed := by kernel_rfl
  f20 := Tryd.func48.trans (congrArg some (by kernel_rfl))
  t0 := Tryd.underlying0
  a0 := Tryd.isAgg0
  z0 := Tryd.sizeOf0
  v0 := Tryd.zeroValue0
  t3 := Tryd.underlying3
  a3 := Tryd.isAgg3
  z3 := Tryd.sizeOf3
  v3 := Tryd.zeroValue3
  t4 := Tryd.underlying4
  a4 := Tryd.isAgg4
  z4 := Tryd.sizeOf4
  v4 := Tryd.zeroValue4
  t22 := Tryd.underlying43
  a22 := Tryd.isAgg43
  z22 := Tryd.sizeOf43
  v22 := Tryd.zeroValue43
  i3 := by kernel_rfl }



theorem compact_le (l : List Int) : (Lib.compact l).length ≤ l.length := by
  unfold Lib.compact Lib.compactUpTo
  rw [List.length_map]
  have := List.length_filter_le (Lib.keeps l.toArray) (List.range l.length)
  simpa using this
theorem ownsRow_cut {w : World} {base g cap n k : Nat} {e : TypeId} {xs : List Value} (h : w.ownsRow base e 1 (.slice (some ⟨g, 0, none⟩) n cap) n xs) (hk : k ≤ n) : w.ownsRow base e 1 (.slice (some ⟨g, 0, none⟩) k cap) k (xs.take k) := by
  rcases h.2 with ⟨h0, _⟩ | ⟨g', cap', cur, hv, hbg, hg, hnc, hcm, hcs, htk⟩
  · cases h0
  · cases hv
    have hl := h.1
    refine ⟨by rw [List.length_take]; omega, .inr ⟨g, cap, cur, rfl, hbg, hg, by omega, hcm, hcs, ?_⟩⟩
    rw [← htk, List.take_take]; congr 1; omega
theorem grow_none (w : World) : grow w #[] = w := by cases w; simp [grow]
theorem compact_c {e : TypeId} {l : List Int} {v : Value} {σ : List Ent} {F : Value → List Ent} (hu : ∀ v', Upd σ (.row v e 1 (l.map fun n => [AV.int .i64 n])) (.row v' e 1 ((Lib.compact l).map fun n => [AV.int .i64 n])) (F v')) (hb : l.length < 4611686018427387904) :
    SCall Tryd.prog 48 [.slv v] σ (Grew F) := by
  refine ⟨fun X M w vs hg ha => ?_⟩
  simp only [VRels, VRel] at ha
  obtain ⟨u, r, hvs, ⟨rfl, hsl⟩, rfl⟩ := ha
  obtain rfl : vs = #[u] := by cases vs; simp at hvs; rw [hvs]
  obtain ⟨xs, hown, hrel, hs⟩ := hg.ent _ (hu u).mem
  have hxs := rel_ints hrel
  subst hxs
  simp only [List.length_map] at hown
  rcases hown.2 with ⟨rfl, h0⟩ | ⟨g, cap, cur, rfl, hb0, hgg, hnc, hcm, hcs, htk⟩
  · have h1 : l = [] := List.eq_nil_of_length_eq_zero h0
    subst h1
    have hs0 : Lib.compact ([] : List Int) = [] := rfl
    rw [hs0] at hu
    refine Calls.mono (Any.slices_Compact_int_empty Tryd.laysCompact none 0 w) ?_
    rintro e' w' ⟨rfl, rfl⟩
    exact ⟨M, _, .slv nilS, _, Mem.le_refl M, hg.upd (hu nilS) rfl rfl rfl (fun _ _ _ => rfl) (hg.ent _ (hu nilS).mem) (.inl rfl), ⟨rfl, rfl⟩, rfl, .mk _⟩
  · have hH := holds_of_blockI (ss := l) hgg (by simpa using htk)
    have hle := compact_le l
    refine Calls.mono (Any.slices_Compact_int Tryd.laysCompact g 0 cap l w hH (by omega) hnc) ?_
    rintro e' w' ⟨rfl, n, rfl⟩
    have hgr := grownBy_sortedI (w := w) (g := g) (n := n) (os := #[]) (Lib.compact l ++ List.replicate (l.length - (Lib.compact l).length) 0).toArray
    have hrow := ownsRow_sortedI (base := 0) (n := n) (os := #[]) (ts := Lib.compact l ++ List.replicate (l.length - (Lib.compact l).length) 0) (by simp; omega) (Nat.zero_le g) hgg hnc hcm hcs
    rw [grow_none] at hgr hrow
    have hrow2 := ownsRow_cut hrow hle
    have etk : ((Lib.compact l ++ List.replicate (l.length - (Lib.compact l).length) 0).map (Value.int .i64)).take (Lib.compact l).length = (Lib.compact l).map (Value.int .i64) := by
      rw [← List.map_take, List.take_left]
    rw [etk] at hrow2
    refine ⟨M, _, .slv _, _, Mem.le_refl M, ?_, ⟨rfl, rfl⟩, rfl, .mk _⟩
    refine hg.upd (hu _) hgr.os hgr.tape hgr.output (fun k hk hne => hgr.block k hk (fun e => hne (by simp [Ent.block, Value.ownBlock]; exact (Option.some.inj e).symm))) ?_ (.inl rfl)
    refine ⟨_, ?_, ints_rel (Lib.compact l), by intro x hx; obtain ⟨_, _, rfl⟩ := List.mem_map.1 hx; rfl⟩
    simp only [List.length_map]
    exact hrow2
def setOf (l : List Int) : List Int := Lib.compact (sortI l)
theorem sortI_perm' (l : List Int) : (sortI l).Perm l := List.mergeSort_perm _ _
theorem sortI_le (l : List Int) : (sortI l).Pairwise (· ≤ ·) := by
  have h := List.pairwise_mergeSort (le := fun x y : Int => decide (x ≤ y)) (fun a b c h1 h2 => by simp only [decide_eq_true_eq] at *; omega) (fun a b => by simp only [Bool.or_eq_true, decide_eq_true_eq]; omega) l
  exact h.imp (fun h => by simpa using h)
theorem setOf_sub (l : List Int) : (setOf l).Sublist (sortI l) := by
  unfold setOf Lib.compact Lib.compactUpTo
  have h1 := (List.filter_sublist (p := Lib.keeps (sortI l).toArray) (l := List.range (sortI l).length)).map ((sortI l).toArray[·]!)
  have h2 := Lib.range_map_get (sortI l).toArray
  simp only [List.size_toArray, List.toList_toArray] at h2
  rw [h2] at h1
  exact h1
theorem setOf_mem {l : List Int} {x : Int} : x ∈ setOf l ↔ x ∈ l := by
  constructor
  · intro h; exact (sortI_perm' l).mem_iff.1 ((setOf_sub l).subset h)
  · intro h
    have h1 : x ∈ sortI l := (sortI_perm' l).mem_iff.2 h
    obtain ⟨j, hj⟩ := List.getElem?_of_mem h1
    have key : ∀ (j : Nat) (x : Int), (sortI l)[j]? = some x → x ∈ setOf l := by
      intro j
      induction j with
      | zero =>
        intro x hx
        obtain ⟨p1, p2⟩ := List.getElem?_eq_some_iff.1 hx
        unfold setOf Lib.compact Lib.compactUpTo
        refine List.mem_map.2 ⟨0, List.mem_filter.2 ⟨List.mem_range.2 p1, by simp [Lib.keeps]⟩, ?_⟩
        simp [p1, p2]
      | succ j ih =>
        intro x hx
        obtain ⟨p1, p2⟩ := List.getElem?_eq_some_iff.1 hx
        by_cases hk : Lib.keeps (sortI l).toArray (j + 1) = true
        · unfold setOf Lib.compact Lib.compactUpTo
          refine List.mem_map.2 ⟨j + 1, List.mem_filter.2 ⟨List.mem_range.2 p1, hk⟩, ?_⟩
          simp [p1, p2]
        · refine ih x ?_
          have hjl : j < (sortI l).length := by omega
          simp only [Lib.keeps, decide_eq_true_eq, not_or, Nat.add_sub_cancel, ne_eq, Decidable.not_not] at hk
          have h3 := hk.2
          simp [p1, hjl] at h3
          rw [List.getElem?_eq_getElem hjl, ← h3, p2]
    exact key j x hj
/-- Strictly increasing. -/
theorem setOf_up (l : List Int) : (setOf l).Pairwise (· < ·) := by
  have hs := sortI_le l
  unfold setOf Lib.compact Lib.compactUpTo
  rw [List.pairwise_map]
  refine (List.pairwise_lt_range.filter _).imp_of_mem ?_
  intro a b ha hb hab
  obtain ⟨a1, a2⟩ := List.mem_filter.1 ha
  obtain ⟨b1, b2⟩ := List.mem_filter.1 hb
  have a1 := List.mem_range.1 a1
  have b1 := List.mem_range.1 b1
  rw [List.pairwise_iff_getElem] at hs
  simp only [Lib.keeps, decide_eq_true_eq] at b2
  have hne : (sortI l)[b] ≠ (sortI l)[b - 1] := by
    rcases b2 with e | e
    · omega
    · simpa [b1, show b - 1 < (sortI l).length by omega] using e
  have h1 : (sortI l)[b - 1] ≤ (sortI l)[b] := hs (b - 1) b (by omega) b1 (by omega)
  have h2 : (sortI l)[a] ≤ (sortI l)[b - 1] := by
    by_cases e : a = b - 1
    · subst e; exact Int.le_refl _
    · exact hs a (b - 1) a1 (by omega) (by omega)
  simp [a1, b1]
  omega
theorem setOf_len (l : List Int) : (setOf l).length ≤ l.length := by
  have h1 := compact_le (sortI l)
  rwa [sortI_length] at h1
/-- Strictly increasing lists with the same members are equal. -/
theorem up_ext : ∀ {l m : List Int}, l.Pairwise (· < ·) → m.Pairwise (· < ·) → (∀ x, x ∈ l ↔ x ∈ m) → l = m
  | [], [], _, _, _ => rfl
  | [], y :: m, _, _, h => absurd ((h y).2 (by simp)) (by simp)
  | x :: l, [], _, _, h => absurd ((h x).1 (by simp)) (by simp)
  | x :: l, y :: m, hl, hm, h => by
    rw [List.pairwise_cons] at hl hm
    have e : x = y := by
      rcases List.mem_cons.1 ((h x).1 (by simp)) with e | e
      · exact e
      · rcases List.mem_cons.1 ((h y).2 (by simp)) with e2 | e2
        · exact e2.symm
        · have := hm.1 x e; have := hl.1 y e2; omega
    subst e
    rw [up_ext hl.2 hm.2 fun z => ?_]
    constructor
    · intro hz
      rcases List.mem_cons.1 ((h z).1 (List.mem_cons_of_mem _ hz)) with e | e
      · have := hl.1 z hz; omega
      · exact e
    · intro hz
      rcases List.mem_cons.1 ((h z).2 (List.mem_cons_of_mem _ hz)) with e | e
      · have := hm.1 z hz; omega
      · exact e
end Go.Proofs.YtccjolaolmpifaaDoor
