/- The library's Compact on a row of integers that is owned. -/
import Derived.Test.YtkpeaimmjjekeaaSn
import Derived.Ground.Names2Prog
import Derived.Shelf.Slices.CompactI
import Derived.Test.YtkpeaimmjjekeaaProg
namespace Go.Proofs.Ytkpeaimmjjekeaa
set_option linter.unusedSimpArgs false
set_option linter.unusedVariables false
open Go.Shelf Go.Sort
def Try.laysCompact_ren : Go.Shelf.Ren := ⟨fun | 20 => 47 | n => n, fun | 22 => 46 | 3 => 3 | 4 => 4 | 0 => 0 | n => n, fun | n => n⟩
theorem Try.laysCompact : Go.Proofs.Lays2.n20 Try.prog Try.laysCompact_ren := {
  mixed := by kernel_rfl
  f20 := Try.func47.trans (congrArg some (by kernel_rfl))
  t0 := Try.underlying0
  a0 := Try.isAgg0
  z0 := Try.sizeOf0
  v0 := Try.zeroValue0
  t3 := Try.underlying3
  a3 := Try.isAgg3
  z3 := Try.sizeOf3
  v3 := Try.zeroValue3
  t4 := Try.underlying4
  a4 := Try.isAgg4
  z4 := Try.sizeOf4
  v4 := Try.zeroValue4
  t22 := Try.underlying46
  a22 := Try.isAgg46
  z22 := Try.sizeOf46
  v22 := Try.zeroValue46
  i3 := by kernel_rfl }



theorem compact_le (l : List Int) : (Lib.compact l).length ≤ l.length := by
  unfold Lib.compact Lib.compactUpTo
  rw [List.length_map]
  have := List.length_filter_le (Lib.keeps l.toArray) (List.range l.length)
  simpa using this
theorem ownsRow_cut {w : World} {base g cap n k : Nat} {e : TypeId} {xs : List Value} (h : w.ownsRow base e 1 (.slice (some ⟨g, 0, none⟩) n cap) n xs) (hk : k ≤ n) : w.ownsRow base e 1 (.slice (some ⟨g, 0, none⟩) k cap) k (xs.take k) := by
  rcases h.2 with ⟨h0, _⟩ | ⟨g', cap', cur, hv, hbg, hg, hnc, hcm, hcs, htk⟩
  · cases h0
  · cases hv
    have hl := h.1
    refine ⟨by rw [List.length_take]; omega, .inr ⟨g, cap, cur, rfl, hbg, hg, by omega, hcm, hcs, ?_⟩⟩
    rw [← htk, List.take_take]; congr 1; omega
theorem grow_none (w : World) : grow w #[] = w := by cases w; simp [grow]
theorem compact_c {e : TypeId} {l : List Int} {v : Value} {σ : List Ent} {F : Value → List Ent} (hu : ∀ v', Upd σ (.row v e 1 (l.map fun n => [AV.int .i64 n])) (.row v' e 1 ((Lib.compact l).map fun n => [AV.int .i64 n])) (F v')) (hb : l.length < 4611686018427387904) :
    SCall Try.prog 47 [.slv v] σ (Grew F) := by
  refine ⟨fun X M w vs hg ha => ?_⟩
  simp only [VRels, VRel] at ha
  obtain ⟨u, r, hvs, ⟨rfl, hsl⟩, rfl⟩ := ha
  obtain rfl : vs = #[u] := by cases vs; simp at hvs; rw [hvs]
  obtain ⟨xs, hown, hrel, hs⟩ := hg.ent _ (hu u).mem
  have hxs := rel_ints hrel
  subst hxs
  simp only [List.length_map] at hown
  rcases hown.2 with ⟨rfl, h0⟩ | ⟨g, cap, cur, rfl, hb0, hgg, hnc, hcm, hcs, htk⟩
  · have h1 : l = [] := List.eq_nil_of_length_eq_zero h0
    subst h1
    have hs0 : Lib.compact ([] : List Int) = [] := rfl
    rw [hs0] at hu
    refine Calls.mono (Any.slices_Compact_int_empty Try.laysCompact none 0 w) ?_
    rintro e' w' ⟨rfl, rfl⟩
    exact ⟨M, _, .slv nilS, _, Mem.le_refl M, hg.upd (hu nilS) rfl rfl rfl (fun _ _ _ => rfl) (hg.ent _ (hu nilS).mem) (.inl rfl), ⟨rfl, rfl⟩, rfl, .mk _⟩
  · have hH := holds_of_blockI (ss := l) hgg (by simpa using htk)
    have hle := compact_le l
    refine Calls.mono (Any.slices_Compact_int Try.laysCompact g 0 cap l w hH (by omega) hnc) ?_
    rintro e' w' ⟨rfl, n, rfl⟩
    have hgr := grownBy_sortedI (w := w) (g := g) (n := n) (os := #[]) (Lib.compact l ++ List.replicate (l.length - (Lib.compact l).length) 0).toArray
    have hrow := ownsRow_sortedI (base := 0) (n := n) (os := #[]) (ts := Lib.compact l ++ List.replicate (l.length - (Lib.compact l).length) 0) (by simp; omega) (Nat.zero_le g) hgg hnc hcm hcs
    rw [grow_none] at hgr hrow
    have hrow2 := ownsRow_cut hrow hle
    have etk : ((Lib.compact l ++ List.replicate (l.length - (Lib.compact l).length) 0).map (Value.int .i64)).take (Lib.compact l).length = (Lib.compact l).map (Value.int .i64) := by
      rw [← List.map_take, List.take_left]
    rw [etk] at hrow2
    refine ⟨M, _, .slv _, _, Mem.le_refl M, ?_, ⟨rfl, rfl⟩, rfl, .mk _⟩
    refine hg.upd (hu _) hgr.os hgr.tape hgr.output (fun k hk hne => hgr.block k hk (fun e => hne (by simp [Ent.block, Value.ownBlock]; exact (Option.some.inj e).symm))) ?_ (.inl rfl)
    refine ⟨_, ?_, ints_rel (Lib.compact l), by intro x hx; obtain ⟨_, _, rfl⟩ := List.mem_map.1 hx; rfl⟩
    simp only [List.length_map]
    exact hrow2
end Go.Proofs.Ytkpeaimmjjekeaa
