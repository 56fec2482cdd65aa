/- The library's sort of integers, on a row that is owned. -/
import Derived.Test.YtobcnochlkdpaaaSl
import Derived.Shelf.Sort.Plain
import Derived.Sort.OwnSortedInts
import Derived.Shelf.Slices.In.SortNone
import Derived.Ground.NamesProg
import Derived.Test.YtobcnochlkdpaaaProg
namespace Go.Proofs.Ytobcnochlkdpaaa
set_option linter.unusedSimpArgs false
set_option linter.unusedVariables false
open Go.Shelf Go.Sort
def Try.laysSort_ren : Go.Shelf.Ren := ⟨fun | 189 => 52 | 125 => 57 | 257 => 56 | 128 => 67 | 129 => 68 | 294 => 58 | 295 => 59 | 296 => 60 | 297 => 61 | 298 => 62 | 299 => 63 | 216 => 64 | 300 => 65 | 301 => 66 | 328 => 69 | 329 => 70 | 330 => 71 | 331 => 72 | 332 => 73 | 215 => 41 | 343 => 74 | n => n, fun | 28 => 67 | 3 => 3 | 46 => 75 | 0 => 0 | 51 => 99 | 53 => 101 | 4 => 4 | 183 => 92 | 182 => 91 | 131 => 56 | 5 => 5 | 9 => 9 | 218 => 102 | 222 => 106 | 228 => 108 | 229 => 109 | n => n, fun | n => n⟩
theorem Try.laysSort : Go.Proofs.Lays.n189 Try.prog Try.laysSort_ren := {
  mixed := by kernel_rfl
  f125 := Try.func57.trans (congrArg some (by kernel_rfl))
  f128 := Try.func67.trans (congrArg some (by kernel_rfl))
  f129 := Try.func68.trans (congrArg some (by kernel_rfl))
  f189 := Try.func52.trans (congrArg some (by kernel_rfl))
  f215 := Try.func41.trans (congrArg some (by kernel_rfl))
  f216 := Try.func64.trans (congrArg some (by kernel_rfl))
  f257 := Try.func56.trans (congrArg some (by kernel_rfl))
  f294 := Try.func58.trans (congrArg some (by kernel_rfl))
  f295 := Try.func59.trans (congrArg some (by kernel_rfl))
  f296 := Try.func60.trans (congrArg some (by kernel_rfl))
  f297 := Try.func61.trans (congrArg some (by kernel_rfl))
  f298 := Try.func62.trans (congrArg some (by kernel_rfl))
  f299 := Try.func63.trans (congrArg some (by kernel_rfl))
  f300 := Try.func65.trans (congrArg some (by kernel_rfl))
  f301 := Try.func66.trans (congrArg some (by kernel_rfl))
  f328 := Try.func69.trans (congrArg some (by kernel_rfl))
  f329 := Try.func70.trans (congrArg some (by kernel_rfl))
  f330 := Try.func71.trans (congrArg some (by kernel_rfl))
  f331 := Try.func72.trans (congrArg some (by kernel_rfl))
  f332 := Try.func73.trans (congrArg some (by kernel_rfl))
  f343 := Try.func74.trans (congrArg some (by kernel_rfl))
  t0 := Try.underlying0
  a0 := Try.isAgg0
  z0 := Try.sizeOf0
  v0 := Try.zeroValue0
  t3 := Try.underlying3
  a3 := Try.isAgg3
  z3 := Try.sizeOf3
  v3 := Try.zeroValue3
  t4 := Try.underlying4
  a4 := Try.isAgg4
  z4 := Try.sizeOf4
  v4 := Try.zeroValue4
  t5 := Try.underlying5
  a5 := Try.isAgg5
  z5 := Try.sizeOf5
  v5 := Try.zeroValue5
  t9 := Try.underlying9
  a9 := Try.isAgg9
  z9 := Try.sizeOf9
  v9 := Try.zeroValue9
  t28 := Try.underlying67
  a28 := Try.isAgg67
  z28 := Try.sizeOf67
  v28 := Try.zeroValue67
  t46 := Try.underlying75
  a46 := Try.isAgg75
  z46 := Try.sizeOf75
  v46 := Try.zeroValue75
  t51 := Try.underlying99
  a51 := Try.isAgg99
  z51 := Try.sizeOf99
  v51 := Try.zeroValue99
  t53 := Try.underlying101
  a53 := Try.isAgg101
  z53 := Try.sizeOf101
  v53 := Try.zeroValue101
  t131 := Try.underlying56
  a131 := Try.isAgg56
  z131 := Try.sizeOf56
  v131 := Try.zeroValue56
  t182 := Try.underlying91
  a182 := Try.isAgg91
  z182 := Try.sizeOf91
  v182 := Try.zeroValue91
  t183 := Try.underlying92
  a183 := Try.isAgg92
  z183 := Try.sizeOf92
  v183 := Try.zeroValue92
  t218 := Try.underlying102
  a218 := Try.isAgg102
  z218 := Try.sizeOf102
  v218 := Try.zeroValue102
  t222 := Try.underlying106
  a222 := Try.isAgg106
  z222 := Try.sizeOf106
  v222 := Try.zeroValue106
  t228 := Try.underlying108
  a228 := Try.isAgg108
  z228 := Try.sizeOf108
  v228 := Try.zeroValue108
  t229 := Try.underlying109
  a229 := Try.isAgg109
  z229 := Try.sizeOf109
  v229 := Try.zeroValue109 }



def sortI (l : List Int) : List Int := l.mergeSort fun x y => decide (x ≤ y)
theorem sortI_length (l : List Int) : (sortI l).length = l.length := by simp [sortI]
theorem rel_ints {M : Mem} : ∀ {l : List Int} {vs : List Value}, VRels M (l.map fun n => [AV.int .i64 n]).flatten vs → vs = l.map (Value.int .i64)
  | [], vs, h => by simpa [VRels] using h
  | n :: l, vs, h => by
    simp only [List.map_cons, List.flatten_cons, List.cons_append, List.nil_append, VRels, VRel] at h
    obtain ⟨v, r, rfl, rfl, h⟩ := h
    rw [rel_ints h]; rfl
theorem ints_rel {M : Mem} : ∀ (l : List Int), VRels M (l.map fun n => [AV.int .i64 n]).flatten (l.map (Value.int .i64))
  | [] => by simp [VRels]
  | n :: l => by
    simp only [List.map_cons, List.flatten_cons, List.cons_append, List.nil_append, VRels, VRel]
    exact ⟨_, _, rfl, rfl, ints_rel l⟩

theorem sort_c {e : TypeId} {l : List Int} {v : Value} {σ σ' : List Ent} (hu : Upd σ (.row v e 1 (l.map fun n => [AV.int .i64 n])) (.row v e 1 ((sortI l).map fun n => [AV.int .i64 n])) σ') (hb : l.length < 4611686018427387904) :
    SCall Try.prog 52 [.slv v] σ (fun r τ => r = .tup [] ∧ τ = σ') := by
  refine ⟨fun X M w vs hg ha => ?_⟩
  simp only [VRels, VRel] at ha
  obtain ⟨u, r, hvs, ⟨rfl, hsl⟩, rfl⟩ := ha
  obtain rfl : vs = #[u] := by cases vs; simp at hvs; rw [hvs]
  obtain ⟨xs, hown, hrel, hs⟩ := hg.ent _ hu.mem
  have hxs := rel_ints hrel
  subst hxs
  simp only [List.length_map] at hown
  rcases hown.2 with ⟨rfl, h0⟩ | ⟨g, cap, cur, rfl, hb0, hgg, hnc, hcm, hcs, htk⟩
  · have h1 : l = [] := List.eq_nil_of_length_eq_zero h0
    subst h1
    have hs0 : sortI [] = [] := by simp [sortI]
    rw [hs0] at hu
    refine Calls.mono (calls_of_every_depth fun D => AnyS.slices_Sort_int_none_alone Try.laysSort D none 0 w) ?_
    rintro e' w' ⟨rfl, rfl⟩
    refine ⟨M, σ', .tup [], _, Mem.le_refl M, ?_, by simp only [VRel]; exact ⟨#[], rfl, by simp [VRels]⟩, rfl, rfl, rfl⟩
    exact hg.upd hu rfl rfl rfl (fun _ _ _ => rfl) (hg.ent _ hu.mem) (.inl rfl)
  · have hH := holds_of_blockI (ss := l) hgg (by simpa using htk)
    refine Calls.mono (Any.slices_Sort_int Try.laysSort g 0 cap l w hH (Array.getElem?_eq_some_iff.1 hgg).1 hb) ?_
    rintro e' w' ⟨rfl, n, os, rfl⟩
    have hgr := grownBy_sortedI (w := w) (g := g) (n := n) (os := os) (sortI l).toArray
    have hrow := ownsRow_sortedI (base := 0) (n := n) (os := os) (ts := sortI l) (sortI_length l) (Nat.zero_le g) hgg hnc hcm hcs
    refine ⟨M, σ', .tup [], _, Mem.le_refl M, ?_, by simp only [VRel]; exact ⟨#[], rfl, by simp [VRels]⟩, rfl, rfl, rfl⟩
    refine hg.upd hu hgr.os hgr.tape hgr.output (fun k hk hne => hgr.block k hk (fun e => hne (by simp [Ent.block, Value.ownBlock]; exact (Option.some.inj e).symm))) ?_ (.inl rfl)
    refine ⟨_, ?_, ints_rel (sortI l), by intro x hx; obtain ⟨_, _, rfl⟩ := List.mem_map.1 hx; rfl⟩
    simp only [List.length_map, sortI_length]
    exact hrow
end Go.Proofs.Ytobcnochlkdpaaa
