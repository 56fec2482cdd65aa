/- The library's sort of integers, on a row that is owned. -/
import Derived.Test.YtkpeaimmjjekeaaSl
import Derived.Shelf.Sort.Plain
import Derived.Sort.OwnSortedInts
import Derived.Shelf.Slices.In.SortNone
import Derived.Ground.NamesProg
import Derived.Test.YtkpeaimmjjekeaaProg
namespace Go.Proofs.Ytkpeaimmjjekeaa
set_option linter.unusedSimpArgs false
set_option linter.unusedVariables false
open Go.Shelf Go.Sort
def Try.laysSort_ren : Go.Shelf.Ren := ⟨fun | 189 => 46 | 125 => 50 | 257 => 49 | 128 => 60 | 129 => 61 | 294 => 51 | 295 => 52 | 296 => 53 | 297 => 54 | 298 => 55 | 299 => 56 | 216 => 57 | 300 => 58 | 301 => 59 | 328 => 62 | 329 => 63 | 330 => 64 | 331 => 65 | 332 => 66 | 215 => 67 | 343 => 68 | n => n, fun | 28 => 46 | 3 => 3 | 46 => 83 | 0 => 0 | 51 => 94 | 53 => 96 | 4 => 4 | 183 => 86 | 182 => 85 | 131 => 91 | 5 => 5 | 9 => 9 | 218 => 97 | 222 => 101 | 228 => 103 | 229 => 104 | n => n, fun | n => n⟩
theorem Try.laysSort : Go.Proofs.Lays.n189 Try.prog Try.laysSort_ren := {
  mixed := by kernel_rfl
  f125 := Try.func50.trans (congrArg some (by kernel_rfl))
  f128 := Try.func60.trans (congrArg some (by kernel_rfl))
  f129 := Try.func61.trans (congrArg some (by kernel_rfl))
  f189 := Try.func46.trans (congrArg some (by kernel_rfl))
  f215 := Try.func67.trans (congrArg some (by kernel_rfl))
  f216 := Try.func57.trans (congrArg some (by kernel_rfl))
  f257 := Try.func49.trans (congrArg some (by kernel_rfl))
  f294 := Try.func51.trans (congrArg some (by kernel_rfl))
  f295 := Try.func52.trans (congrArg some (by kernel_rfl))
  f296 := Try.func53.trans (congrArg some (by kernel_rfl))
  f297 := Try.func54.trans (congrArg some (by kernel_rfl))
  f298 := Try.func55.trans (congrArg some (by kernel_rfl))
  f299 := Try.func56.trans (congrArg some (by kernel_rfl))
  f300 := Try.func58.trans (congrArg some (by kernel_rfl))
  f301 := Try.func59.trans (congrArg some (by kernel_rfl))
  f328 := Try.func62.trans (congrArg some (by kernel_rfl))
  f329 := Try.func63.trans (congrArg some (by kernel_rfl))
  f330 := Try.func64.trans (congrArg some (by kernel_rfl))
  f331 := Try.func65.trans (congrArg some (by kernel_rfl))
  f332 := Try.func66.trans (congrArg some (by kernel_rfl))
  f343 := Try.func68.trans (congrArg some (by kernel_rfl))
  t0 := Try.underlying0
  a0 := Try.isAgg0
  z0 := Try.sizeOf0
  v0 := Try.zeroValue0
  t3 := Try.underlying3
  a3 := Try.isAgg3
  z3 := Try.sizeOf3
  v3 := Try.zeroValue3
  t4 := Try.underlying4
  a4 := Try.isAgg4
  z4 := Try.sizeOf4
  v4 := Try.zeroValue4
  t5 := Try.underlying5
  a5 := Try.isAgg5
  z5 := Try.sizeOf5
  v5 := Try.zeroValue5
  t9 := Try.underlying9
  a9 := Try.isAgg9
  z9 := Try.sizeOf9
  v9 := Try.zeroValue9
  t28 := Try.underlying46
  a28 := Try.isAgg46
  z28 := Try.sizeOf46
  v28 := Try.zeroValue46
  t46 := Try.underlying83
  a46 := Try.isAgg83
  z46 := Try.sizeOf83
  v46 := Try.zeroValue83
  t51 := Try.underlying94
  a51 := Try.isAgg94
  z51 := Try.sizeOf94
  v51 := Try.zeroValue94
  t53 := Try.underlying96
  a53 := Try.isAgg96
  z53 := Try.sizeOf96
  v53 := Try.zeroValue96
  t131 := Try.underlying91
  a131 := Try.isAgg91
  z131 := Try.sizeOf91
  v131 := Try.zeroValue91
  t182 := Try.underlying85
  a182 := Try.isAgg85
  z182 := Try.sizeOf85
  v182 := Try.zeroValue85
  t183 := Try.underlying86
  a183 := Try.isAgg86
  z183 := Try.sizeOf86
  v183 := Try.zeroValue86
  t218 := Try.underlying97
  a218 := Try.isAgg97
  z218 := Try.sizeOf97
  v218 := Try.zeroValue97
  t222 := Try.underlying101
  a222 := Try.isAgg101
  z222 := Try.sizeOf101
  v222 := Try.zeroValue101
  t228 := Try.underlying103
  a228 := Try.isAgg103
  z228 := Try.sizeOf103
  v228 := Try.zeroValue103
  t229 := Try.underlying104
  a229 := Try.isAgg104
  z229 := Try.sizeOf104
  v229 := Try.zeroValue104 }



def sortI (l : List Int) : List Int := l.mergeSort fun x y => decide (x ≤ y)
theorem sortI_length (l : List Int) : (sortI l).length = l.length := by simp [sortI]
theorem rel_ints {M : Mem} : ∀ {l : List Int} {vs : List Value}, VRels M (l.map fun n => [AV.int .i64 n]).flatten vs → vs = l.map (Value.int .i64)
  | [], vs, h => by simpa [VRels] using h
  | n :: l, vs, h => by
    simp only [List.map_cons, List.flatten_cons, List.cons_append, List.nil_append, VRels, VRel] at h
    obtain ⟨v, r, rfl, rfl, h⟩ := h
    rw [rel_ints h]; rfl
theorem ints_rel {M : Mem} : ∀ (l : List Int), VRels M (l.map fun n => [AV.int .i64 n]).flatten (l.map (Value.int .i64))
  | [] => by simp [VRels]
  | n :: l => by
    simp only [List.map_cons, List.flatten_cons, List.cons_append, List.nil_append, VRels, VRel]
    exact ⟨_, _, rfl, rfl, ints_rel l⟩

theorem sort_c {e : TypeId} {l : List Int} {v : Value} {σ σ' : List Ent} (hu : Upd σ (.row v e 1 (l.map fun n => [AV.int .i64 n])) (.row v e 1 ((sortI l).map fun n => [AV.int .i64 n])) σ') (hb : l.length < 4611686018427387904) :
    SCall Try.prog 46 [.slv v] σ (fun r τ => r = .tup [] ∧ τ = σ') := by
  refine ⟨fun X M w vs hg ha => ?_⟩
  simp only [VRels, VRel] at ha
  obtain ⟨u, r, hvs, ⟨rfl, hsl⟩, rfl⟩ := ha
  obtain rfl : vs = #[u] := by cases vs; simp at hvs; rw [hvs]
  obtain ⟨xs, hown, hrel, hs⟩ := hg.ent _ hu.mem
  have hxs := rel_ints hrel
  subst hxs
  simp only [List.length_map] at hown
  rcases hown.2 with ⟨rfl, h0⟩ | ⟨g, cap, cur, rfl, hb0, hgg, hnc, hcm, hcs, htk⟩
  · have h1 : l = [] := List.eq_nil_of_length_eq_zero h0
    subst h1
    have hs0 : sortI [] = [] := by simp [sortI]
    rw [hs0] at hu
    refine Calls.mono (calls_of_every_depth fun D => AnyS.slices_Sort_int_none_alone Try.laysSort D none 0 w) ?_
    rintro e' w' ⟨rfl, rfl⟩
    refine ⟨M, σ', .tup [], _, Mem.le_refl M, ?_, by simp only [VRel]; exact ⟨#[], rfl, by simp [VRels]⟩, rfl, rfl, rfl⟩
    exact hg.upd hu rfl rfl rfl (fun _ _ _ => rfl) (hg.ent _ hu.mem) (.inl rfl)
  · have hH := holds_of_blockI (ss := l) hgg (by simpa using htk)
    refine Calls.mono (Any.slices_Sort_int Try.laysSort g 0 cap l w hH (Array.getElem?_eq_some_iff.1 hgg).1 hb) ?_
    rintro e' w' ⟨rfl, n, os, rfl⟩
    have hgr := grownBy_sortedI (w := w) (g := g) (n := n) (os := os) (sortI l).toArray
    have hrow := ownsRow_sortedI (base := 0) (n := n) (os := os) (ts := sortI l) (sortI_length l) (Nat.zero_le g) hgg hnc hcm hcs
    refine ⟨M, σ', .tup [], _, Mem.le_refl M, ?_, by simp only [VRel]; exact ⟨#[], rfl, by simp [VRels]⟩, rfl, rfl, rfl⟩
    refine hg.upd hu hgr.os hgr.tape hgr.output (fun k hk hne => hgr.block k hk (fun e => hne (by simp [Ent.block, Value.ownBlock]; exact (Option.some.inj e).symm))) ?_ (.inl rfl)
    refine ⟨_, ?_, ints_rel (sortI l), by intro x hx; obtain ⟨_, _, rfl⟩ := List.mem_map.1 hx; rfl⟩
    simp only [List.length_map, sortI_length]
    exact hrow
end Go.Proofs.Ytkpeaimmjjekeaa
