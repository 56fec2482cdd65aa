/- Parts of the proof that belong together: Uk Sn Syb Um. -/
import Derived.Test.YtkhoengjdfmfaaaGreatGE03
import Derived.Test.YtkhoengjdfmfaaaGreatGE04
import Derived.Test.YtkhoengjdfmfaaaGreatGE07
import Derived.Test.YtkhoengjdfmfaaaGreatGE12
import Derived.Shelf.SlSortCmp.WholeK
import Derived.Shelf.SlSortCmp.NoneTotal
import Derived.Shelf.SlicesG.Cmp
import Derived.Ground.SlsfProg
import Derived.Ground.SlgcProg
import Derived.Ground.NamesProg
import Derived.Test.YtkhoengjdfmfaaaGreatProg
import Derived.Shelf.Sort.Plain
import Derived.Sort.OwnSortedInts
import Derived.Shelf.Slices.In.SortNone
set_option maxRecDepth 10000
set_option linter.unusedSimpArgs false
set_option linter.unusedVariables false
namespace Go.Proofs.YtkhoengjdfmfaaaGreat
open Go.Shelf Go.Sort Go.RowKit
def Tryz.sortTurn_ren : Go.Shelf.Ren := ⟨fun | 6 => 38 | 15 => 75 | 14 => 76 | 28 => 113 | 29 => 114 | 20 => 115 | 21 => 116 | 22 => 117 | 23 => 118 | 24 => 119 | 25 => 120 | 26 => 121 | 27 => 122 | 46 => 143 | 47 => 139 | 48 => 140 | 49 => 144 | 50 => 145 | 57 => 157 | n => n, fun | 22 => 30 | 24 => 64 | 25 => 86 | 3 => 3 | 39 => 120 | 0 => 0 | 53 => 150 | 55 => 152 | 4 => 4 | 46 => 143 | 45 => 142 | 50 => 65 | 5 => 5 | 9 => 9 | 66 => 176 | 70 => 163 | 76 => 199 | 77 => 106 | n => n, fun | n => n⟩
theorem Tryz.sortTurn : Go.Proofs.SlLaysF0.n6 Tryz.prog Tryz.sortTurn_ren := {
  mixed := by kernel_rfl
  f6 := ⟨Tryz.f38.name, by decide, Tryz.func38.trans (congrArg some (by kernel_rfl))⟩
  f14 := ⟨Tryz.f76.name, by decide, Tryz.func76.trans (congrArg some (by kernel_rfl))⟩
  f15 := Tryz.func75.trans (congrArg some (by kernel_rfl))
  f20 := ⟨Tryz.f115.name, by decide, Tryz.func115.trans (congrArg some (by kernel_rfl))⟩
  f21 := ⟨Tryz.f116.name, by decide, Tryz.func116.trans (congrArg some (by kernel_rfl))⟩
  f22 := ⟨Tryz.f117.name, by decide, Tryz.func117.trans (congrArg some (by kernel_rfl))⟩
  f23 := ⟨Tryz.f118.name, by decide, Tryz.func118.trans (congrArg some (by kernel_rfl))⟩
  f24 := ⟨Tryz.f119.name, by decide, Tryz.func119.trans (congrArg some (by kernel_rfl))⟩
  f25 := ⟨Tryz.f120.name, by decide, Tryz.func120.trans (congrArg some (by kernel_rfl))⟩
  f26 := ⟨Tryz.f121.name, by decide, Tryz.func121.trans (congrArg some (by kernel_rfl))⟩
  f27 := ⟨Tryz.f122.name, by decide, Tryz.func122.trans (congrArg some (by kernel_rfl))⟩
  f28 := Tryz.func113.trans (congrArg some (by kernel_rfl))
  f29 := Tryz.func114.trans (congrArg some (by kernel_rfl))
  f46 := ⟨Tryz.f143.name, by decide, Tryz.func143.trans (congrArg some (by kernel_rfl))⟩
  f47 := Tryz.func139.trans (congrArg some (by kernel_rfl))
  f48 := Tryz.func140.trans (congrArg some (by kernel_rfl))
  f49 := ⟨Tryz.f144.name, by decide, Tryz.func144.trans (congrArg some (by kernel_rfl))⟩
  f50 := ⟨Tryz.f145.name, by decide, Tryz.func145.trans (congrArg some (by kernel_rfl))⟩
  f57 := ⟨Tryz.f157.name, by decide, Tryz.func157.trans (congrArg some (by kernel_rfl))⟩
  t0 := Tryz.underlying0
  a0 := Tryz.isAgg0
  z0 := Tryz.sizeOf0
  v0 := Tryz.zeroValue0
  t3 := Tryz.underlying3
  a3 := Tryz.isAgg3
  z3 := Tryz.sizeOf3
  v3 := Tryz.zeroValue3
  t4 := Tryz.underlying4
  a4 := Tryz.isAgg4
  z4 := Tryz.sizeOf4
  v4 := Tryz.zeroValue4
  t5 := Tryz.underlying5
  a5 := Tryz.isAgg5
  z5 := Tryz.sizeOf5
  v5 := Tryz.zeroValue5
  t9 := Tryz.underlying9
  a9 := Tryz.isAgg9
  z9 := Tryz.sizeOf9
  v9 := Tryz.zeroValue9
  t22 := Tryz.underlying30
  a22 := Tryz.isAgg30
  z22 := Tryz.sizeOf30
  v22 := Tryz.zeroValue30
  t25 := Tryz.underlying86
  a25 := Tryz.isAgg86
  z25 := Tryz.sizeOf86
  v25 := Tryz.zeroValue86
  t39 := Tryz.underlying120
  a39 := Tryz.isAgg120
  z39 := Tryz.sizeOf120
  v39 := Tryz.zeroValue120
  t45 := Tryz.underlying142
  a45 := Tryz.isAgg142
  z45 := Tryz.sizeOf142
  v45 := Tryz.zeroValue142
  t46 := Tryz.underlying143
  a46 := Tryz.isAgg143
  z46 := Tryz.sizeOf143
  v46 := Tryz.zeroValue143
  t50 := Tryz.underlying65
  a50 := Tryz.isAgg65
  z50 := Tryz.sizeOf65
  v50 := Tryz.zeroValue65
  t53 := Tryz.underlying150
  a53 := Tryz.isAgg150
  z53 := Tryz.sizeOf150
  v53 := Tryz.zeroValue150
  t55 := Tryz.underlying152
  a55 := Tryz.isAgg152
  z55 := Tryz.sizeOf152
  v55 := Tryz.zeroValue152
  t66 := Tryz.underlying176
  a66 := Tryz.isAgg176
  z66 := Tryz.sizeOf176
  v66 := Tryz.zeroValue176
  t70 := Tryz.underlying163
  a70 := Tryz.isAgg163
  z70 := Tryz.sizeOf163
  v70 := Tryz.zeroValue163
  t76 := Tryz.underlying199
  a76 := Tryz.isAgg199
  z76 := Tryz.sizeOf199
  v76 := Tryz.zeroValue199
  t77 := Tryz.underlying106
  a77 := Tryz.isAgg106
  z77 := Tryz.sizeOf106
  v77 := Tryz.zeroValue106 }
def Tryz.cmpInt_ren : Go.Shelf.Ren := ⟨fun | 5 => 36 | 7 => 73 | n => n, fun | 22 => 3 | 3 => 3 | 4 => 4 | n => n, fun | n => n⟩
theorem Tryz.cmpInt : Go.Proofs.SlLaysC2.n5 Tryz.prog Tryz.cmpInt_ren := {
  mixed := by kernel_rfl
  f5 := ⟨Tryz.f36.name, by decide, Tryz.func36.trans (congrArg some (by kernel_rfl))⟩
  f7 := ⟨Tryz.f73.name, by decide, Tryz.func73.trans (congrArg some (by kernel_rfl))⟩
  t3 := Tryz.underlying3
  a3 := Tryz.isAgg3
  z3 := Tryz.sizeOf3
  v3 := Tryz.zeroValue3
  t4 := Tryz.underlying4
  a4 := Tryz.isAgg4
  z4 := Tryz.sizeOf4
  v4 := Tryz.zeroValue4
  t22 := Tryz.underlying3
  a22 := Tryz.isAgg3
  z22 := Tryz.sizeOf3
  v22 := Tryz.zeroValue3 }
abbrev St1 := {v : Value // v.oneCell' = true}
instance : Inhabited St1 := ⟨⟨.int .i64 0, rfl⟩⟩
abbrev Tv := Int × Int × Int × St1
def encT (x : Tv) : List Value := [.int .i64 x.1, .int .i64 x.2.1, .int .i64 x.2.2.1, x.2.2.2.1]
abbrev tnC (t : Tn) : List AV := [.int .i64 t.turn, .int .i64 t.farm, .int .i64 t.given, ints t.twice]
def RelT (M : Mem) (p : Tn × Tv) : Prop := p.2.1 = p.1.turn ∧ p.2.2.1 = p.1.farm ∧ p.2.2.2.1 = p.1.given ∧ VRel M (ints p.1.twice) p.2.2.2.2.1
theorem rel_tns {M : Mem} : ∀ {L : List Tn} {xs : List Value}, VRels M (L.map tnC).flatten xs → ∃ ps : List (Tn × Tv), ps.map (·.1) = L ∧ (∀ p ∈ ps, RelT M p) ∧ xs = (ps.map (·.2)).flatMap encT
  | [], xs, h => ⟨[], rfl, by simp, by simpa [VRels] using h⟩
  | t :: L, xs, h => by
    simp only [List.map_cons, List.flatten_cons, List.cons_append, List.nil_append, VRels] at h
    obtain ⟨v1, r1, rfl, h1, v2, r2, rfl, h2, v3, r3, rfl, h3, v4, r4, rfl, h4, h5⟩ := h
    obtain ⟨ps, e1, e2, e3⟩ := rel_tns h5
    have ho : v4.oneCell' = true := h4.one rfl
    simp only [VRel] at h1 h2 h3
    subst h1 h2 h3
    refine ⟨(t, (t.turn, t.farm, t.given, ⟨v4, ho⟩)) :: ps, by rw [List.map_cons, e1], ?_, ?_⟩
    · intro p hp
      rcases List.mem_cons.1 hp with rfl | hp
      · exact ⟨rfl, rfl, rfl, h4⟩
      · exact e2 p hp
    · rw [e3]; rfl
theorem tns_rel {M : Mem} : ∀ {ps : List (Tn × Tv)}, (∀ p ∈ ps, RelT M p) → VRels M ((ps.map (·.1)).map tnC).flatten ((ps.map (·.2)).flatMap encT)
  | [], _ => by simp [VRels]
  | p :: ps, h => by
    obtain ⟨h1, h2, h3, h4⟩ := h p (by simp)
    have ih := tns_rel (ps := ps) fun q hq => h q (by simp [hq])
    simp only [List.map_cons, List.flatten_cons, List.cons_append, List.nil_append, List.flatMap_cons, VRels, encT, VRel]
    rw [h1, h2, h3]
    refine ⟨_, _, rfl, rfl, _, _, rfl, rfl, _, _, rfl, rfl, _, _, rfl, ?_, ih⟩
    simpa [VRel] using h4
theorem perm_lift {α β : Type} {g : α → β} : ∀ {l : List α} {m : List β}, m.Perm (l.map g) → ∃ l' : List α, l'.Perm l ∧ l'.map g = m
  | [], m, h => ⟨[], List.Perm.refl _, by simpa using h.symm⟩
  | a :: l, m, h => by
    have hm : g a ∈ m := h.mem_iff.2 (by simp)
    obtain ⟨m1, m2, rfl⟩ := List.append_of_mem hm
    have h2 : (m1 ++ m2).Perm (l.map g) := (List.Perm.cons_inv (a := g a) (List.perm_middle.symm.trans h))
    obtain ⟨l', e1, e2⟩ := perm_lift h2
    obtain ⟨l1, l2, rfl, e3, e4⟩ := List.map_eq_append_iff.1 e2
    exact ⟨l1 ++ a :: l2, List.perm_middle.trans (e1.cons a), by simp [e3, e4]⟩
theorem ltTurn (x y : Tv) : ltOf (fun x y : Tv => Lib.compareInt x.1 y.1) x y = decide (x.1 < y.1) := by
  unfold ltOf Lib.compareInt
  by_cases h1 : x.1 < y.1
  · simp [h1]
  · by_cases h2 : y.1 < x.1 <;> simp [h1, h2]
theorem swoTurn : SWO (ltOf fun x y : Tv => Lib.compareInt x.1 y.1) where
  irrefl x := by rw [ltTurn]; simp
  trans x y z h1 h2 := by rw [ltTurn] at *; simp at *; omega
  ntrans x y z h1 h2 := by rw [ltTurn] at *; simp at *; omega
set_option maxHeartbeats 1000000 in
theorem closureT (x y : Tv) (W : World) : Calls Tryz.prog 39 #[.agg #[.int .i64 x.1, .int .i64 x.2.1, .int .i64 x.2.2.1, x.2.2.2.1], .agg #[.int .i64 y.1, .int .i64 y.2.1, .int .i64 y.2.2.1, y.2.2.2.1]] W fun e w' => e = .returned (.int .i64 (Lib.compareInt x.1 y.1)) ∧ ∃ q os', w' = grow (W.drewN q) os' := by
  have hcon := fun W' => AnyG.cmp_Compare_int Tryz.cmpInt x.1 y.1 W'
  change ∀ W', Calls Tryz.prog 36 _ _ _ at hcon
  generalize Lib.compareInt x.1 y.1 = r at hcon ⊢
  go_enter Tryz.func39, Tryz.ntmps39
  go_wp2_with (go_at_call 36; refine (hcon _).mono ?_; rintro e w' ⟨rfl, rfl⟩)
  go_ret
  exact ⟨rfl, 0, _, by rw [alloc_eq_grow, alloc_eq_grow, grow_grow]; rfl⟩
theorem flat_len : ∀ d : List Tv, (d.flatMap encT).length = d.length * 4
  | [] => rfl
  | x :: d => by
    rw [List.flatMap_cons, List.length_append, flat_len d, List.length_cons]
    have : (encT x).length = 4 := rfl
    omega
theorem flat_list (d : List Tv) : (flatK encT 4 d.toArray).toList = d.flatMap encT := by
  have hlen := flat_len d
  apply List.ext_getElem
  · simp [hlen]
  · intro t h1 h2
    have ht : t < d.length * 4 := by rw [← hlen]; exact h2
    have hget : ∀ (d : List Tv) (q r : Nat) (hq : q < d.length), r < 4 → (d.flatMap encT)[q * 4 + r]? = (encT d[q])[r]? := by
      intro d
      induction d with
      | nil => intro q r hq; simp at hq
      | cons x d ih =>
        intro q r hq hr
        rw [List.flatMap_cons]
        cases q with
        | zero => rw [List.getElem?_append_left (by have : (encT x).length = 4 := rfl; omega)]; simp
        | succ q =>
          rw [List.getElem?_append_right (by have : (encT x).length = 4 := rfl; omega), show (q + 1) * 4 + r - (encT x).length = q * 4 + r by have : (encT x).length = 4 := rfl; omega, ih q r (by simpa using hq) hr]
          simp
    have hq : t / 4 < d.length := by omega
    have hr : t % 4 < 4 := Nat.mod_lt _ (by omega)
    have h3 := hget d (t / 4) (t % 4) hq hr
    rw [show t / 4 * 4 + t % 4 = t by omega, List.getElem?_eq_getElem h2] at h3
    have h4 : (flatK encT 4 d.toArray).toList[t] = (encT d[t / 4])[t % 4]! := by
      simp [flatK, hq]
    rw [h4]
    have h5 : (encT d[t / 4])[t % 4]? = some ((encT d[t / 4])[t % 4]!) := by
      rw [List.getElem!_eq_getElem?_getD]
      cases h6 : (encT d[t / 4])[t % 4]? with
      | none => rw [h6] at h3; cases h3
      | some z => rfl
    rw [h5] at h3
    exact (Option.some.inj h3).symm
theorem holds_block {w : World} {g : Nat} {cur : Array Value} {e : TypeId} {d : List Tv} (hb : w.heap[g]? = some (.cells cur e (0, 0))) (ht : cur.toList.take (d.length * 4) = d.flatMap encT) : HoldsK encT 4 w g 0 d.toArray := by
  intro j hj
  have hj' : j < d.length * 4 := by simpa using hj
  refine ⟨?_, by simp [World.frozen?, hb]⟩
  have h1 : (cur.toList.take (d.length * 4))[j]? = (d.flatMap encT)[j]? := by rw [ht]
  rw [List.getElem?_take_of_lt hj', ← flat_list] at h1
  have h2 : (flatK encT 4 d.toArray)[j]? = some ((flatK encT 4 d.toArray)[j]!) := by
    rw [getElem!_pos _ j hj]; exact Array.getElem?_eq_getElem hj
  simp only [World.cell?, hb, Nat.zero_add]
  rw [Array.getElem?_toList] at h1
  simpa [h2] using h1
theorem take_putN (cur : Array Value) (F : Array Value) (h : F.size ≤ cur.size) : (putCells id 0 F cur).toList.take F.size = F.toList := by
  apply List.ext_getElem?
  intro j
  by_cases hj : j < F.size
  · rw [List.getElem?_take_of_lt hj]
    simp only [putCells, Array.getElem?_toList]
    have hc : j < cur.size := by omega
    simp [hj, hc]
  · rw [List.getElem?_eq_none (by simp; omega), List.getElem?_eq_none (by simp; omega)]
theorem heap_T {w : World} {g n : Nat} {e : TypeId} {os : Array Obj} {cur : Array Value} (F : Array Value) (hb : w.heap[g]? = some (.cells cur e (0, 0))) : (grow (putRow id (Sort.ahead w n) g 0 F) os).heap[g]? = some (.cells (putCells id 0 F cur) e (0, 0)) := by
  have hlt := (Array.getElem?_eq_some_iff.1 hb).1
  rw [heap_grow_old _ _ (by simpa using hlt)]
  simp [putRow, mapBlock, Sort.ahead, Array.getElem?_modify, hb, onCells]
theorem grownBy_T {w : World} {g n : Nat} {os : Array Obj} (F : Array Value) : w.grownBy (grow (putRow id (Sort.ahead w n) g 0 F) os) (some g) := by
  refine ⟨rfl, rfl, rfl, by simp, fun k hk hne => ?_⟩
  rw [heap_grow_old _ _ (by simpa using hk)]
  have : g ≠ k := fun e => hne (by rw [e])
  simp [putRow, mapBlock, Sort.ahead, Array.getElem?_modify, this]
set_option maxHeartbeats 4000000 in
theorem sortTurn_c {L : List Tn} {v : Value} {σ : List Ent} (hb : L.length ≤ 100000) :
    SCall Tryz.prog 38 [.slv v, .fn (.func 39) [] []] (.row v 64 4 (L.map tnC) :: σ) (fun r τ => r = .tup [] ∧ ∃ S : List Tn, S.Perm L ∧ S.Pairwise (fun a b => a.turn ≤ b.turn) ∧ τ = .row v 64 4 (S.map tnC) :: σ) := by
  by_cases hL0 : L = []
  · subst hL0
    refine ⟨fun X M w vs hg ha => ?_⟩
    simp only [VRels, VRel] at ha
    obtain ⟨u, r, hvs, ⟨rfl, hsl⟩, u2, r2, rfl, ⟨ws1, ws2, rfl, hw1, hw2⟩, rfl⟩ := ha
    obtain rfl : vs = #[u, .func (.func 39) ws1 ws2] := by cases vs; simp at hvs; rw [hvs]
    obtain ⟨xs, hown, hrel, hs⟩ := hg.ent _ (List.Mem.head _)
    have hu : ∃ p cap, u = .slice p 0 cap := by
      rcases hown.2 with ⟨rfl, h0⟩ | ⟨g, cap, cur, rfl, _⟩
      · exact ⟨none, 0, rfl⟩
      · exact ⟨_, cap, rfl⟩
    obtain ⟨p, cap, rfl⟩ := hu
    have hcon := AnyF.slices_SortFunc_none Tryz.sortTurn p cap (.func (.func 39) ws1 ws2) w
    change Calls Tryz.prog 38 _ _ _ at hcon
    refine Calls.mono hcon ?_
    rintro e' w' ⟨rfl, rfl⟩
    exact ⟨M, _, .tup [], _, Mem.le_refl M, hg, by simp only [VRel]; exact ⟨#[], rfl, by simp [VRels]⟩, rfl, rfl, [], List.Perm.refl _, .nil, rfl⟩
  refine ⟨fun X M w vs hg ha => ?_⟩
  simp only [VRels, VRel] at ha
  obtain ⟨u, r, hvs, ⟨rfl, hsl⟩, u2, r2, rfl, ⟨ws1, ws2, rfl, hw1, hw2⟩, rfl⟩ := ha
  obtain rfl : ws1 = #[] := by cases ws1; simp at hw1; rw [hw1]
  obtain rfl : ws2 = #[] := by cases ws2; simp at hw2; rw [hw2]
  obtain rfl : vs = #[u, .func (.func 39) #[] #[]] := by cases vs; simp at hvs; rw [hvs]
  obtain ⟨xs, hown, hrel, hs⟩ := hg.ent _ (List.Mem.head _)
  obtain ⟨ps, e1, e2, e3⟩ := rel_tns hrel
  subst e3
  simp only [List.length_map] at hown
  have hpl : ps.length = L.length := by rw [← e1, List.length_map]
  rcases hown.2 with ⟨rfl, h0⟩ | ⟨g, cap, cur, rfl, hb0, hgg, hnc, hcm, hcs, htk⟩
  · exact absurd (List.eq_nil_of_length_eq_zero h0) hL0
  · have hdl : (ps.map (·.2)).length = L.length := by rw [List.length_map, hpl]
    have hH := holds_block (d := ps.map (·.2)) hgg (by rw [hdl]; exact htk)
    have eg : ∀ args w, (callFunc 39 args).run Tryz.prog w = .ok (.enter 39 args) w := enters_of Tryz.func39 (by kernel_rfl) rfl
    have hcon := AnyQ.slices_SortFunc Tryz.sortTurn 4 (fun w => (tyOf_spec (b := true) (sz := 4) rfl w).1) (fun w => (tyOf_spec (b := true) (sz := 4) rfl w).2) encT (fun _ => rfl) (fun x v hv => by
      simp only [encT, List.mem_cons, List.not_mem_nil, or_false] at hv
      rcases hv with rfl | rfl | rfl | rfl
      · rfl
      · rfl
      · rfl
      · exact x.2.2.2.2) (fun x y => Lib.compareInt x.1 y.1) swoTurn 39 #[] g 0 cap (ps.map (·.2)).toArray w eg (fun _ _ _ _ x y => closureT x y _) hH (Array.getElem?_eq_some_iff.1 hgg).1 (by simp; omega)
    change Calls Tryz.prog 38 _ _ _ at hcon
    rw [show (ps.map (·.2)).toArray.size = L.length by simp [hpl]] at hcon
    refine Calls.mono hcon ?_
    rintro e' w' ⟨rfl, d', n, os, hp, hsd, rfl⟩
    have hsz : d'.size = L.length := by have := hp.1; simp [hpl] at this; exact this
    have hperm : d'.toList.Perm (ps.map (·.2)) := by
      have h3 := hp.2.2
      rw [← hsz] at h3
      have e4 : (d'.extract 0 d'.size).toList = d'.toList := by simp
      have e5 : (((ps.map (·.2)).toArray).extract 0 d'.size).toList = ps.map (·.2) := by
        rw [show d'.size = (ps.map (·.2)).toArray.size by rw [hsz]; simp [hpl]]
        simp [List.take_of_length_le]
      rwa [e4, e5] at h3
    obtain ⟨qs, hq1, hq2⟩ := perm_lift hperm
    have hql : qs.length = L.length := by rw [hq1.length_eq, hpl]
    have hqr : ∀ p ∈ qs, RelT M p := fun p hp' => e2 p (hq1.mem_iff.1 hp')
    have hd' : d' = (qs.map (·.2)).toArray := by rw [hq2]
    have hS : (qs.map (·.1)).Pairwise (fun a b : Tn => a.turn ≤ b.turn) := by
      rw [List.pairwise_map, List.pairwise_iff_getElem]
      intro i j hi hj hij
      have h3 := hsd i j (Nat.zero_le _) hij (by omega)
      rw [ltTurn, decide_eq_false_iff_not] at h3
      have gi : d'[i]! = qs[i].2 := by rw [hd']; simp [hi]
      have gj : d'[j]! = qs[j].2 := by rw [hd']; simp [hj]
      rw [gi, gj] at h3
      have r1 := (hqr qs[i] (List.getElem_mem hi)).1
      have r2 := (hqr qs[j] (List.getElem_mem hj)).1
      omega
    have hfl : (flatK encT 4 d').toList = (qs.map (·.2)).flatMap encT := by rw [hd']; exact flat_list _
    have hfs : (flatK encT 4 d').size = L.length * 4 := by simp [hsz]
    have hgr := grownBy_T (w := w) (g := g) (n := n) (os := os) (flatK encT 4 d')
    refine ⟨M, .row (.slice (some ⟨g, 0, none⟩) L.length cap) 64 4 ((qs.map (·.1)).map tnC) :: σ, .tup [], _, Mem.le_refl M, ?_, by simp only [VRel]; exact ⟨#[], rfl, by simp [VRels]⟩, rfl, rfl, qs.map (·.1), ?_, hS, rfl⟩
    · refine hg.upd .here hgr.os hgr.tape hgr.output (fun k hk hne => hgr.block k hk (fun e => hne (by simp [Ent.block, Value.ownBlock]; exact (Option.some.inj e).symm))) ?_ (.inl rfl)
      refine ⟨(qs.map (·.2)).flatMap encT, ?_, tns_rel hqr, by intro x hx; obtain ⟨_, _, rfl⟩ := List.mem_map.1 hx; rfl⟩
      rw [List.length_map, List.length_map, hql]
      refine ⟨by rw [← hfl, Array.length_toList, hfs], .inr ⟨g, cap, _, rfl, hb0, heap_T _ hgg, hnc, hcm, by simp [putCells, hcs], ?_⟩⟩
      rw [← hfs, take_putN _ _ (by rw [hfs, hcs]; exact Nat.mul_le_mul_right _ hnc), hfl]
    · have := hq1.map (·.1)
      rwa [e1] at this
end Go.Proofs.YtkhoengjdfmfaaaGreat
namespace Go.Proofs.YtkhoengjdfmfaaaGreat
open Go.Shelf Go.Sort
def Tryz.laysSort_ren : Go.Shelf.Ren := ⟨fun | 189 => 37 | 125 => 75 | 257 => 74 | 128 => 113 | 129 => 114 | 294 => 104 | 295 => 105 | 296 => 106 | 297 => 107 | 298 => 108 | 299 => 109 | 216 => 110 | 300 => 111 | 301 => 112 | 328 => 138 | 329 => 139 | 330 => 140 | 331 => 141 | 332 => 142 | 215 => 73 | 343 => 156 | n => n, fun | 28 => 62 | 3 => 3 | 46 => 120 | 0 => 0 | 51 => 150 | 53 => 152 | 4 => 4 | 183 => 143 | 182 => 142 | 131 => 65 | 5 => 5 | 9 => 9 | 218 => 176 | 222 => 163 | 228 => 199 | 229 => 106 | n => n, fun | n => n⟩
theorem Tryz.laysSort : Go.Proofs.Lays.n189 Tryz.prog Tryz.laysSort_ren := {
  mixed := by kernel_rfl
  f125 := Tryz.func75.trans (congrArg some (by kernel_rfl))
  f128 := Tryz.func113.trans (congrArg some (by kernel_rfl))
  f129 := Tryz.func114.trans (congrArg some (by kernel_rfl))
  f189 := Tryz.func37.trans (congrArg some (by kernel_rfl))
  f215 := Tryz.func73.trans (congrArg some (by kernel_rfl))
  f216 := Tryz.func110.trans (congrArg some (by kernel_rfl))
  f257 := Tryz.func74.trans (congrArg some (by kernel_rfl))
  f294 := Tryz.func104.trans (congrArg some (by kernel_rfl))
  f295 := Tryz.func105.trans (congrArg some (by kernel_rfl))
  f296 := Tryz.func106.trans (congrArg some (by kernel_rfl))
  f297 := Tryz.func107.trans (congrArg some (by kernel_rfl))
  f298 := Tryz.func108.trans (congrArg some (by kernel_rfl))
  f299 := Tryz.func109.trans (congrArg some (by kernel_rfl))
  f300 := Tryz.func111.trans (congrArg some (by kernel_rfl))
  f301 := Tryz.func112.trans (congrArg some (by kernel_rfl))
  f328 := Tryz.func138.trans (congrArg some (by kernel_rfl))
  f329 := Tryz.func139.trans (congrArg some (by kernel_rfl))
  f330 := Tryz.func140.trans (congrArg some (by kernel_rfl))
  f331 := Tryz.func141.trans (congrArg some (by kernel_rfl))
  f332 := Tryz.func142.trans (congrArg some (by kernel_rfl))
  f343 := Tryz.func156.trans (congrArg some (by kernel_rfl))
  t0 := Tryz.underlying0
  a0 := Tryz.isAgg0
  z0 := Tryz.sizeOf0
  v0 := Tryz.zeroValue0
  t3 := Tryz.underlying3
  a3 := Tryz.isAgg3
  z3 := Tryz.sizeOf3
  v3 := Tryz.zeroValue3
  t4 := Tryz.underlying4
  a4 := Tryz.isAgg4
  z4 := Tryz.sizeOf4
  v4 := Tryz.zeroValue4
  t5 := Tryz.underlying5
  a5 := Tryz.isAgg5
  z5 := Tryz.sizeOf5
  v5 := Tryz.zeroValue5
  t9 := Tryz.underlying9
  a9 := Tryz.isAgg9
  z9 := Tryz.sizeOf9
  v9 := Tryz.zeroValue9
  t28 := Tryz.underlying62
  a28 := Tryz.isAgg62
  z28 := Tryz.sizeOf62
  v28 := Tryz.zeroValue62
  t46 := Tryz.underlying120
  a46 := Tryz.isAgg120
  z46 := Tryz.sizeOf120
  v46 := Tryz.zeroValue120
  t51 := Tryz.underlying150
  a51 := Tryz.isAgg150
  z51 := Tryz.sizeOf150
  v51 := Tryz.zeroValue150
  t53 := Tryz.underlying152
  a53 := Tryz.isAgg152
  z53 := Tryz.sizeOf152
  v53 := Tryz.zeroValue152
  t131 := Tryz.underlying65
  a131 := Tryz.isAgg65
  z131 := Tryz.sizeOf65
  v131 := Tryz.zeroValue65
  t182 := Tryz.underlying142
  a182 := Tryz.isAgg142
  z182 := Tryz.sizeOf142
  v182 := Tryz.zeroValue142
  t183 := Tryz.underlying143
  a183 := Tryz.isAgg143
  z183 := Tryz.sizeOf143
  v183 := Tryz.zeroValue143
  t218 := Tryz.underlying176
  a218 := Tryz.isAgg176
  z218 := Tryz.sizeOf176
  v218 := Tryz.zeroValue176
  t222 := Tryz.underlying163
  a222 := Tryz.isAgg163
  z222 := Tryz.sizeOf163
  v222 := Tryz.zeroValue163
  t228 := Tryz.underlying199
  a228 := Tryz.isAgg199
  z228 := Tryz.sizeOf199
  v228 := Tryz.zeroValue199
  t229 := Tryz.underlying106
  a229 := Tryz.isAgg106
  z229 := Tryz.sizeOf106
  v229 := Tryz.zeroValue106 }
def sortI (l : List Int) : List Int := l.mergeSort fun x y => decide (x ≤ y)
theorem sortI_length (l : List Int) : (sortI l).length = l.length := by simp [sortI]
theorem rel_ints {M : Mem} : ∀ {l : List Int} {vs : List Value}, VRels M (l.map fun n => [AV.int .i64 n]).flatten vs → vs = l.map (Value.int .i64)
  | [], vs, h => by simpa [VRels] using h
  | n :: l, vs, h => by
    simp only [List.map_cons, List.flatten_cons, List.cons_append, List.nil_append, VRels, VRel] at h
    obtain ⟨v, r, rfl, rfl, h⟩ := h
    rw [rel_ints h]; rfl
theorem ints_rel {M : Mem} : ∀ (l : List Int), VRels M (l.map fun n => [AV.int .i64 n]).flatten (l.map (Value.int .i64))
  | [] => by simp [VRels]
  | n :: l => by
    simp only [List.map_cons, List.flatten_cons, List.cons_append, List.nil_append, VRels, VRel]
    exact ⟨_, _, rfl, rfl, ints_rel l⟩
theorem sort_c {e : TypeId} {l : List Int} {v : Value} {σ σ' : List Ent} (hu : Upd σ (.row v e 1 (l.map fun n => [AV.int .i64 n])) (.row v e 1 ((sortI l).map fun n => [AV.int .i64 n])) σ') (hb : l.length < 4611686018427387904) :
    SCall Tryz.prog 37 [.slv v] σ (fun r τ => r = .tup [] ∧ τ = σ') := by
  refine ⟨fun X M w vs hg ha => ?_⟩
  simp only [VRels, VRel] at ha
  obtain ⟨u, r, hvs, ⟨rfl, hsl⟩, rfl⟩ := ha
  obtain rfl : vs = #[u] := by cases vs; simp at hvs; rw [hvs]
  obtain ⟨xs, hown, hrel, hs⟩ := hg.ent _ hu.mem
  have hxs := rel_ints hrel
  subst hxs
  simp only [List.length_map] at hown
  rcases hown.2 with ⟨rfl, h0⟩ | ⟨g, cap, cur, rfl, hb0, hgg, hnc, hcm, hcs, htk⟩
  · have h1 : l = [] := List.eq_nil_of_length_eq_zero h0
    subst h1
    have hs0 : sortI [] = [] := by simp [sortI]
    rw [hs0] at hu
    refine Calls.mono (calls_of_every_depth fun D => AnyS.slices_Sort_int_none_alone Tryz.laysSort D none 0 w) ?_
    rintro e' w' ⟨rfl, rfl⟩
    refine ⟨M, σ', .tup [], _, Mem.le_refl M, ?_, by simp only [VRel]; exact ⟨#[], rfl, by simp [VRels]⟩, rfl, rfl, rfl⟩
    exact hg.upd hu rfl rfl rfl (fun _ _ _ => rfl) (hg.ent _ hu.mem) (.inl rfl)
  · have hH := holds_of_blockI (ss := l) hgg (by simpa using htk)
    refine Calls.mono (Any.slices_Sort_int Tryz.laysSort g 0 cap l w hH (Array.getElem?_eq_some_iff.1 hgg).1 hb) ?_
    rintro e' w' ⟨rfl, n, os, rfl⟩
    have hgr := grownBy_sortedI (w := w) (g := g) (n := n) (os := os) (sortI l).toArray
    have hrow := ownsRow_sortedI (base := 0) (n := n) (os := os) (ts := sortI l) (sortI_length l) (Nat.zero_le g) hgg hnc hcm hcs
    refine ⟨M, σ', .tup [], _, Mem.le_refl M, ?_, by simp only [VRel]; exact ⟨#[], rfl, by simp [VRels]⟩, rfl, rfl, rfl⟩
    refine hg.upd hu hgr.os hgr.tape hgr.output (fun k hk hne => hgr.block k hk (fun e => hne (by simp [Ent.block, Value.ownBlock]; exact (Option.some.inj e).symm))) ?_ (.inl rfl)
    refine ⟨_, ?_, ints_rel (sortI l), by intro x hx; obtain ⟨_, _, rfl⟩ := List.mem_map.1 hx; rfl⟩
    simp only [List.length_map, sortI_length]
    exact hrow
end Go.Proofs.YtkhoengjdfmfaaaGreat
namespace Go.Proofs.YtkhoengjdfmfaaaGreat
open Go.MapKept
structure MapB (es : Array MapEntry) (clock : Nat) (K : Int → Bool) (n : Nat) : Prop where
  st : Stamped es clock
  ks : ∀ e ∈ es.toList, ∃ a, e.key = .int .i64 a ∧ K a = true ∧ e.val = .bool true
  al : ∀ a, K a = true → ∃ e ∈ es.toList, e.key = .int .i64 a
  sz : es.size = n
theorem MapB.same {es : Array MapEntry} {clock n : Nat} {K : Int → Bool} (h : MapB es clock K n) {e f : MapEntry} (he : e ∈ es.toList) (hf : f ∈ es.toList) (hk : e.key = f.key ∨ e.born = f.born) : e = f := by
  obtain ⟨i, hi⟩ := List.mem_iff_getElem?.1 he
  obtain ⟨j, hj⟩ := List.mem_iff_getElem?.1 hf
  have hij : i = j := by
    rcases hk with hk | hk
    · have a1 : (es.toList.map (·.key))[i]? = some e.key := by rw [List.getElem?_map, hi]; rfl
      have a2 : (es.toList.map (·.key))[j]? = some e.key := by rw [List.getElem?_map, hj, hk]; rfl
      exact (List.getElem?_inj (List.getElem?_eq_some_iff.1 a1).1 h.st.2.2).1 (a1.trans a2.symm)
    · have a1 : (es.toList.map (·.born))[i]? = some e.born := by rw [List.getElem?_map, hi]; rfl
      have a2 : (es.toList.map (·.born))[j]? = some e.born := by rw [List.getElem?_map, hj, hk]; rfl
      exact (List.getElem?_inj (List.getElem?_eq_some_iff.1 a1).1 h.st.2.1).1 (a1.trans a2.symm)
  subst hij
  rw [hi] at hj
  exact Option.some.inj hj
theorem MapB.push {es : Array MapEntry} {clock n : Nat} {K : Int → Bool} (h : MapB es clock K n) {e : MapEntry} (he : e ∈ es.toList) {k : Int} (hk : e.key = .int .i64 k) {seen : Array Nat} {q : Int} (hq : Hit es (seen.push e.born) q) : Hit es seen q ∨ q = k := by
  obtain ⟨f, hf, hfk, hs⟩ := hq
  rw [contains_push, Bool.or_eq_true, beq_iff_eq] at hs
  rcases hs with hs | hs
  · exact .inl ⟨f, hf, hfk, hs⟩
  · obtain rfl := h.same hf he (.inr hs)
    rw [hk] at hfk
    exact .inr (by simpa using hfk.symm)
theorem MapB.fresh {es : Array MapEntry} {clock n : Nat} {K : Int → Bool} (h : MapB es clock K n) {e : MapEntry} (he : e ∈ es.toList) {k : Int} (hk : e.key = .int .i64 k) {seen : Array Nat} (hs : seen.contains e.born = false) : ¬ Hit es seen k := by
  rintro ⟨f, hf, hfk, hs2⟩
  obtain rfl := h.same hf he (.inl (by rw [hfk, hk]))
  rw [hs] at hs2; cases hs2
section
variable {P : Program} {ro : Option Nat} {env : Env} {σ : List Ent} {dst : Option Tmp} {ty : TypeId} {pos : String} {after : Array Edge} {guard : Option (Nat × Bool)}
inductive RangedB (b : Nat) (K : Int → Bool) (n : Nat) (σ1 : Ent → List Ent) : AV → List Ent → Prop
  | mk (r : Nat) (es : Array MapEntry) (clock : Nat) (h : MapB es clock K n) : RangedB b K n σ1 (.ptr r 0) (.obj r (.mapIter (some b) clock #[] clock) :: σ1 (.obj b (.map es clock)))
theorem g_rangeSet {t et : TypeId} {x : Operand} {b n : Nat} {K : Int → Bool} {σ1 : Ent → List Ent} (ht : mapOf P t = some et) (hx : evA env x = some (.mp b)) (hu : ∀ e, Upd σ (.imap b (boolM K) n) e (σ1 e)) :
    GOp P ro ⟨dst, .range t x, ty, pos, after, guard⟩ env σ (RangedB b K n σ1) :=
  gop_run (by intro c h; cases h) fun X M a w hg ho => by
    have h1 := ho x (by simp [Op.operands]) _ hx
    simp only [VRel] at h1
    obtain ⟨kt, e1, e2⟩ := mapOf_spec ht
    obtain ⟨g, ⟨es, clock, hb, hs, hks, hk1, hk2, hsz⟩, hg2⟩ := hg.ent _ (hu (.obj b (.map #[] 0))).mem
    have hE : MapB es clock K n := by
      refine ⟨hs, fun e he => ?_, fun q hq => ?_, hsz⟩
      · obtain ⟨q, hq⟩ := hks e he
        have h3 := hk1 e he q hq
        have h4 := hg2 q
        rw [h3] at h4
        unfold boolM at h4
        by_cases h0 : K q = true
        · rw [if_pos h0] at h4
          exact ⟨q, hq, h0, by simpa [VRel] using h4⟩
        · rw [if_neg h0] at h4; exact h4.elim
      · have h4 := hg2 q
        unfold boolM at h4
        rw [if_pos hq] at h4
        cases hgq : g q with
        | none => rw [hgq] at h4; exact h4.elim
        | some v => exact hk2 q v hgq
    have hg3 : Good X M (σ1 (.obj b (.map es clock))) w := hg.upd (hu _) rfl rfl rfl (fun _ _ _ => rfl) hb (.inl rfl)
    refine ⟨M, .pointer (some ⟨w.heap.size, 0, none⟩), w.alloc (.mapIter (some b) clock #[] clock), .ptr w.heap.size 0, _, Mem.le_refl M, hg3.alloc _ (.obj w.heap.size (.mapIter (some b) clock #[] clock)) rfl (Go.heap_alloc_new w _), by simp [VRel], .mk _ es clock hE, .inl ?_⟩
    have := run_range_map (P := P) w t kt et b es clock e1 hb
    simp [execOp, h1, Sem.run_bind, this]
inductive NextedB (b r : Nat) (K : Int → Bool) (es : Array MapEntry) (clock : Nat) (seen : Array Nat) (σ : List Ent) (σ1 : Array Nat → List Ent) : AV → List Ent → Prop
  | done (h : ∀ q, K q = true → Hit es seen q) : NextedB b r K es clock seen σ σ1 (.tup [.bool false]) σ
  | step (e : MapEntry) (k : Int) (he : e ∈ es.toList) (hk : e.key = .int .i64 k) (hv : e.val = .bool true) (h0 : K k = true) (hn : ¬ Hit es seen k) (hp : ∀ q, Hit es (seen.push e.born) q → Hit es seen q ∨ q = k) (hm : (leftOf es (seen.push e.born)).size < (leftOf es seen).size) :
      NextedB b r K es clock seen σ σ1 (.tup [.bool true, .int .i64 k, .bool true]) (σ1 (seen.push e.born))
theorem g_nextSet {x : Operand} {b r n clock : Nat} {K : Int → Bool} {es : Array MapEntry} {seen : Array Nat} {σ1 : Array Nat → List Ent} (hE : MapB es clock K n) (hx : evA env x = some (.ptr r 0)) (hm : Ent.obj b (.map es clock) ∈ σ) (hu : ∀ s, Upd σ (.obj r (.mapIter (some b) clock seen clock)) (.obj r (.mapIter (some b) clock s clock)) (σ1 s)) :
    GOp P ro ⟨dst, .next x false, ty, pos, after, guard⟩ env σ (NextedB b r K es clock seen σ σ1) :=
  gop_run (by intro c h; cases h) fun X M a w hg ho => by
    have h1 := ho x (by simp [Op.operands]) _ hx
    simp only [VRel] at h1
    have hb : w.heap[b]? = some (.map es clock) := hg.ent _ hm
    have hr : w.heap[r]? = some (.mapIter (some b) clock seen clock) := hg.ent _ (hu seen).mem
    rcases run_next_at (P := P) w ty r b clock clock seen es clock hr hb hE.st.1 (Nat.le_refl _) with ⟨h0, hrun⟩ | ⟨e, he, w1, hw1, hrun⟩
    · refine ⟨M, .tuple #[.bool false], w, .tup [.bool false], σ, Mem.le_refl M, hg, ?_, .done fun q hq => ?_, .inl ?_⟩
      · simp only [VRel, VRels]; exact ⟨_, rfl, _, _, rfl, rfl, rfl⟩
      · obtain ⟨e, he, hk⟩ := hE.al q hq
        refine ⟨e, he, hk, ?_⟩
        cases hs : seen.contains e.born with
        | true => rfl
        | false =>
          have hmem : e ∈ leftOf es seen := Array.mem_filter.2 ⟨Array.mem_toList_iff.1 he, by rw [hs]; rfl⟩
          rw [Array.eq_empty_of_size_eq_zero h0] at hmem
          simp at hmem
      · simp [execOp, h1, Sem.run_bind, hrun]
    · obtain ⟨hel, hes⟩ := mem_left he
      obtain ⟨k, hk, h0, hv⟩ := hE.ks e hel
      have hg1 : Good X M σ w1 := by rcases hw1 with rfl | rfl; exact hg; exact hg.drew
      have hr1 : w1.heap[r]? = some (.mapIter (some b) clock seen clock) := hg1.ent _ (hu seen).mem
      have hset := Go.MapKept.heap_set (o' := Obj.mapIter (some b) clock (seen.push e.born) clock) hr1
      refine ⟨M, .tuple #[.bool true, e.key, e.val], Go.ChangeMaps.setBlock w1 r (.mapIter (some b) clock (seen.push e.born) clock), .tup [.bool true, .int .i64 k, .bool true], _, Mem.le_refl M, ?_, ?_, .step e k hel hk hv h0 (hE.fresh hel hk hes) (fun q hq => hE.push hel hk hq) (left_shrinks es seen e he), .inl ?_⟩
      · refine hg1.upd (hu _) rfl rfl rfl (fun i hi hne => hset.2 i fun e => hne (by rw [e]; rfl)) hset.1 (.inl rfl)
      · rw [hk, hv]
        simp only [VRel, VRels]
        exact ⟨_, rfl, _, _, rfl, rfl, _, _, rfl, rfl, _, _, rfl, rfl, rfl⟩
      · simp [execOp, h1, Sem.run_bind, hrun]
theorem g_entrySet {x : Operand} {b r n clock : Nat} {K : Int → Bool} {es : Array MapEntry} {seen : Array Nat} {e : MapEntry} {k : Int} (hE : MapB es clock K n) (he : e ∈ es.toList) (hk : e.key = .int .i64 k) (hv : e.val = .bool true) (hx : evA env x = some (.ptr r 0)) (hm : Ent.obj b (.map es clock) ∈ σ) (hr : Ent.obj r (.mapIter (some b) clock (seen.push e.born) clock) ∈ σ) :
    GOp P ro ⟨dst, .entry x, ty, pos, after, guard⟩ env σ (Is (.tup [.int .i64 k, .bool true]) σ) :=
  gop_pure _ (by intro c h; cases h) fun X M a w hg ho => by
    have h1 := ho x (by simp [Op.operands]) _ hx
    simp only [VRel] at h1
    have hrun := run_entry_at (P := P) w r b clock seen es clock e (hg.ent _ hr) (hg.ent _ hm) he hE.st.2.1
    refine ⟨.tuple #[e.key, e.val], ?_, by simp [execOp, h1, Sem.run_bind, hrun]⟩
    rw [hk, hv]
    simp only [VRel, VRels]
    exact ⟨_, rfl, _, _, rfl, rfl, _, _, rfl, rfl, rfl⟩
end
end Go.Proofs.YtkhoengjdfmfaaaGreat
namespace Go.Proofs.YtkhoengjdfmfaaaGreat
open Go.MapKept
theorem insJ_le {n : Int} : ∀ {l : List Int}, l.Pairwise (· ≤ ·) → (insJ n l).Pairwise (· ≤ ·)
  | [], _ => by simp [insJ]
  | x :: l, h => by
    have h' := List.pairwise_cons.1 h
    rw [insJ]
    split
    · rename_i hle
      refine List.pairwise_cons.2 ⟨fun y hy => ?_, h⟩
      rcases List.mem_cons.1 hy with rfl | hy
      · exact hle
      · have := h'.1 y hy; omega
    · refine List.pairwise_cons.2 ⟨fun y hy => ?_, insJ_le h'.2⟩
      rcases insJ_mem.1 hy with rfl | hy
      · omega
      · exact h'.1 y hy
theorem insJ_perm (n : Int) : ∀ l : List Int, (insJ n l).Perm (n :: l)
  | [] => List.Perm.refl _
  | x :: l => by
    rw [insJ]
    split
    · exact List.Perm.refl _
    · exact ((insJ_perm n l).cons x).trans (List.Perm.swap ..)
theorem sortJ_le : ∀ l : List Int, (sortJ l).Pairwise (· ≤ ·)
  | [] => .nil
  | x :: l => insJ_le (sortJ_le l)
theorem sortJ_perm : ∀ l : List Int, (sortJ l).Perm l
  | [] => List.Perm.refl _
  | x :: l => (insJ_perm x (sortJ l)).trans ((sortJ_perm l).cons x)
theorem sortIJ (l : List Int) : sortI l = sortJ l := by
  have h1 : (sortI l).Pairwise (· ≤ ·) := by
    have := List.pairwise_mergeSort (le := fun x y : Int => decide (x ≤ y)) (by simp; omega) (by simp; omega) l
    exact this.imp fun h => by simpa using h
  exact List.Perm.eq_of_pairwise (le := (· ≤ ·)) (fun a b _ _ h k => by omega) h1 (sortJ_le l) ((List.mergeSort_perm _ _).trans (sortJ_perm l).symm)
abbrev mapT : TypeId := 74
set_option maxHeartbeats 16000000 in
theorem turns_c (l : List Sl) (σ : List Ent) : SCall Tryz.prog 13 [.agg [sls l]] σ (fun r τ => r = .tup [.dl 4 ((turnsS l).1.map tnC), .int .i64 (turnsS l).2] ∧ τ = σ) := by
  refine scall_of Tryz.func13 rfl (by simp) ?_
  have c1 := check_c l
  by_cases h0 : checkS l = 0
  · rw [h0] at c1
    have hbk := check_book h0
    have hl : l.length ≤ 600 := by have := (check_zero.1 h0).1; omega
    rw [show turnsS l = ((numsE (entL l)).map (turnS l), 0) by unfold turnsS; rw [if_neg (by rw [h0]; simp)]]
    refine zX (zZ ?_); refine xBb ?_; intro _; refine xAs ?_; refine xAs ?_; refine zY ?_; refine zX ?_; refine zX (zZ ?_); refine xLa ?_; apply zQ; rfl; rfl; rfl; (refine zK rfl rfl (zV (by kernel_rfl)) ?_; exact c1 _); refine xAs ?_; refine zY ?_; refine zX (zZ ?_); refine xMv ?_; refine xBi ?_; intro _ _; refine zY ?_; refine q_c (fun h h_k => ?_) (fun h h_k => ?_) <;> ((try subst h_k); (have hp := h; try simp only [q_n] at hp); (try (exfalso; first | omega | (cases hp; done))));
    refine zR ?_; refine zX (zZ ?_); refine exl_map rfl rfl rfl (by exact g_makeMap) ?_; intro _; refine xBa ?_; intro _; refine xSt ?_; refine zY ?_; refine zX (zZ ?_); refine xBa ?_; intro _; refine xSt ?_; refine zY ?_; refine zX ?_; refine zX (zZ ?_); refine xFa ?_; refine xLd ?_; refine exl_call rfl rfl rfl (zK rfl rfl (zV (by kernel_rfl)) (runs_c _ _)) ?_; rintro _ _ ⟨bs, rfl, rfl⟩; refine zY ?_; refine zL ?_; simp only [zP, zU, zT, zW, retA, ↓reduceIte, Nat.reduceEqDiff]; rotate_left
    (all_goals (repeat (rename BV _ _ => hbv; first | cases hbv | clear hbv)))
    all_goals (try (first | cases ‹true = false› | cases ‹false = true›))
    rename Nat => bs; revert bs; rename Nat => b5; revert b5; rename Nat => b4; revert b4; rename Nat => bm; revert bm; rename Nat => b1; revert b1
    intro b1 bm b4 b5 bs
    clear c1
    refine ex_nilRow 64 4 ?_
    refine ex_weaken (s' := ⟨[(2, .slv nilS), (4, .ptr b4 0), (5, .ptr b5 0), (25, .fn (.func 69) [] [.ptr bs 0])], .row nilS 64 4 [] :: .cells bs [sls l] 22 :: .cells b5 [.int .i64 0] 3 :: .cells b4 [.mp bm] mapT :: .imap bm (fun _ => none) 0 :: σ, [], Tryz.f13.ntmps⟩) (St.le_of (by repeat (first | exact trivial | refine ⟨rfl, ?_⟩)) (by repeat (first | exact q_r | apply q_q | apply q_k))) ?_
    refine ex_range rfl (zV (by kernel_rfl)) ?_
    intro D l0 fn
    show SCall _ _ _ (Ent.loop _ _ _ _ ?ee ?nn ?ps ?asg ?body _ :: _) _
    obtain ⟨L, hL⟩ : ∃ L, L = Ent.loop l0 .ready none fn ?ee ?nn ?ps ?asg ?body D := ⟨_, rfl⟩
    obtain ⟨L3, hL3⟩ : ∃ L3, L3 = Ent.loop l0 .busy none fn ?ee ?nn ?ps ?asg ?body D := ⟨_, rfl⟩
    rw [← hL]
    refine scall_permu (List.perm_append_comm_assoc [L, .obj D (.deferred (some [])), .row nilS 64 4 []] [.cells bs [sls l] 22] _) ?_
    refine SCall.mono (runs1_c l bs l0 _
      (fun k τ => ∃ (A : Asc) (n : Nat), τ = L :: .obj D (.deferred (some [])) :: .row nilS 64 4 [] :: .cells b5 [.int .i64 ((((runsL l).take k).flatten.length : Nat) : Int)] 3 :: .cells b4 [.mp bm] mapT :: .imap bm (slM (kA A)) n :: (rowsA A ++ σ) ∧ AscOf (entF l 0 ((runsL l).take k).flatten) A)
      (fun _ => False) ?_ ⟨[], 0, rfl, ascOf_nil⟩) ?_
    · rintro k r τ hkr ⟨A, n, rfl, hA⟩
      obtain ⟨t, hrt, hr0⟩ := runs_ofT (Nat.le_refl _) hbk.up r (List.mem_of_getElem? hkr)
      have hright := hbk.each t
      rw [← hrt] at hright
      have hft := flat_take hkr
      have hpl : ((runsL l).take (k + 1)).flatten.length ≤ l.length := by
        have h1 := runs_flat (Nat.le_refl l.length)
        have h2 : (runsL l).flatten = ((runsL l).take (k + 1)).flatten ++ ((runsL l).drop (k + 1)).flatten := by rw [← List.flatten_append, List.take_append_drop]
        have h3 := congrArg List.length (h1.symm.trans h2)
        rw [List.length_append] at h3; omega
      rw [hft] at hpl ⊢
      generalize ((runsL l).take k).flatten = pre at hpl hA ⊢
      rw [List.length_append] at hpl
      have hcnt : ∀ x ∈ r, cntB l x = (!decide (x.kind = 3) && !(voidL r).contains x.seq) := fun x hx => by rw [cnt_run hrt hx, voidL_any]
      clear hft hkr hrt
      rw [hL]
      refine SRound.sub ?_
      refine sround (by (repeat first | exact q_h | apply q_t | assumption); done) rfl (by decide) ?_
      refine zZ ?_; refine xAs ?_; refine zN ?_; simp only [zP]; refine ⟨_, (by (exact Upd.here)), ?_⟩; show EX _ _ _ _ _; refine zL ?_; refine zX (zZ ?_); refine exl_map rfl rfl rfl (by exact g_makeMap) ?_; intro _; refine xAs ?_; refine zY ?_; refine zX ?_; refine zX (zZ ?_); refine xMv ?_; refine xLn ?_; refine xMv ?_; refine zY ?_; refine zL ?_; rotate_left
      (all_goals (repeat (rename BV _ _ => hbv; first | cases hbv | clear hbv)))
      all_goals (try (first | cases ‹true = false› | cases ‹false = true›))
      rename Nat => bv
      rw [← hL3]
      rw [show (fun _ => none : Int → Option AV) = boolM (voidL (r.take 0)).contains from boolM_none]
      refine ex_loop (fun (z : Nat × Nat) => (⟨[(4, .ptr b4 0), (5, .ptr b5 0), (6, sls r), (7, .mp bv), (28, sls r), (29, .int .i64 r.length), (30, .int .i64 z.1)], .imap bv (boolM (voidL (r.take z.1)).contains) z.2 :: L3 :: .obj D (.deferred (some [])) :: .row nilS 64 4 [] :: .cells b5 [.int .i64 (pre.length : Nat)] 3 :: .cells b4 [.mp bm] mapT :: .imap bm (slM (kA A)) n :: (rowsA A ++ σ), [], Tryz.f13.ntmps⟩ : St)) (fun z => z.1 ≤ r.length) (fun z => r.length - z.1) (0, 0) (Nat.zero_le _) (St.le_of (by repeat (first | exact trivial | refine ⟨rfl, ?_⟩)) (by repeat (first | exact q_r | apply q_q | apply q_k))) ?_
      intro z hI
      obtain ⟨i, n2⟩ := z
      dsimp only at hI ⊢
      by_cases hi : i < r.length
      · obtain ⟨c, hc⟩ : ∃ c, r[i]? = some c := get_some hi
        have hgc := sl_get hc
        have hv := voidL_take hc
        have hcm := List.mem_of_getElem? hc
        have hsl := hright.slip c hcm
        have hsq := hright.seq i c hc
        clear hcnt hA hright hbk
        rw [hL3]
        by_cases hk : c.kind = 3
        · have ho := slip_off hsl hk
          rw [if_pos hk] at hv
          refine zX (zZ ?_); refine xBi ?_; intro _ _; refine zY ?_; refine zX ?_; refine q_c (fun h h_k => ?_) (fun h h_k => ?_) <;> ((try subst h_k); (have hp := h; try simp only [q_n] at hp); (try (exfalso; first | omega | (cases hp; done))));
          refine zR ?_; refine zX ?_; refine zL ?_; refine zX (zZ ?_); refine xIx ?_; refine xLa ?_; refine xBa ?_; intro _; refine xSt ?_; refine zY ?_; refine zX (zZ ?_); refine xFa ?_; refine xLd ?_; refine xBi ?_; intro _ _; refine zY ?_; refine q_c (fun h h_k => ?_) (fun h h_k => ?_) <;> ((try subst h_k); (have hp := h; try simp only [q_n] at hp); (try (exfalso; first | omega | (cases hp; done))));
          refine zZ ?_; refine xMv ?_; refine xFa ?_; refine xLd ?_; refine xSu ?_; apply exl_do; rfl; rfl; (apply g_mapUpdate; rfl; rfl; rfl; rfl; (exact Upd.there (Upd.here)); (exact boolM_list _ _)); refine zN ?_; refine zZ ?_; refine xAd ?_; refine xMv ?_; refine zN ?_; simp only [zP, zU, zT, zW, retA, ↓reduceIte, Nat.reduceEqDiff]; rotate_left
          (all_goals (repeat (rename BV _ _ => hbv; first | cases hbv | clear hbv)))
          all_goals (try (first | cases ‹true = false› | cases ‹false = true›))
          refine ⟨(i + 1, if ((boolM (voidL (r.take i)).contains) (c.off - 1)).isSome then n2 else n2 + 1), hi, by dsimp only; omega, ?_⟩
          dsimp only
          rw [hv]
          exact q_le
        · rw [if_neg hk] at hv
          refine zX (zZ ?_); refine xBi ?_; intro _ _; refine zY ?_; refine zX ?_; refine q_c (fun h h_k => ?_) (fun h h_k => ?_) <;> ((try subst h_k); (have hp := h; try simp only [q_n] at hp); (try (exfalso; first | omega | (cases hp; done))));
          refine zR ?_; refine zX ?_; refine zL ?_; refine zX (zZ ?_); refine xIx ?_; refine xLa ?_; refine xBa ?_; intro _; refine xSt ?_; refine zY ?_; refine zX (zZ ?_); refine xFa ?_; refine xLd ?_; refine xBi ?_; intro _ _; refine zY ?_; refine q_c (fun h h_k => ?_) (fun h h_k => ?_) <;> ((try subst h_k); (have hp := h; try simp only [q_n] at hp); (try (exfalso; first | omega | (cases hp; done))));
          refine zR ?_; refine zZ ?_; refine xAd ?_; refine xMv ?_; refine zN ?_; simp only [zP, zU, zT, zW, retA, ↓reduceIte, Nat.reduceEqDiff]; rotate_left
          (all_goals (repeat (rename BV _ _ => hbv; first | cases hbv | clear hbv)))
          all_goals (try (first | cases ‹true = false› | cases ‹false = true›))
          refine ⟨(i + 1, n2), hi, by dsimp only; omega, ?_⟩
          dsimp only
          rw [hv]
          exact q_le
      · have e : i = r.length := by omega
        subst e
        rw [List.take_length]
        rw [hL3]
        clear hI hi
        refine zX (zZ ?_); refine xBi ?_; intro _ _; refine zY ?_; refine zX ?_; refine q_c (fun h h_k => ?_) (fun h h_k => ?_) <;> ((try subst h_k); (have hp := h; try simp only [q_n] at hp); (try (exfalso; first | omega | (cases hp; done))));
        refine ex_exit ?_; refine zX (zZ ?_); refine xMv ?_; refine xLn ?_; refine xMv ?_; refine zY ?_; refine zL ?_; rotate_left
        (all_goals (repeat (rename BV _ _ => hbv; first | cases hbv | clear hbv)))
        all_goals (try (first | cases ‹true = false› | cases ‹false = true›))
        rw [← hL3]
        refine ex_loop (fun (z : Nat × Asc × Nat) => (⟨[(4, .ptr b4 0), (5, .ptr b5 0), (7, .mp bv), (42, sls r), (43, .int .i64 r.length), (44, .int .i64 z.1)], .imap bv (boolM (voidL r).contains) n2 :: L3 :: .obj D (.deferred (some [])) :: .row nilS 64 4 [] :: .cells b5 [.int .i64 ((pre.length + z.1 : Nat) : Int)] 3 :: .cells b4 [.mp bm] mapT :: .imap bm (slM (kA z.2.1)) z.2.2 :: (rowsA z.2.1 ++ σ), [], Tryz.f13.ntmps⟩ : St)) (fun z => z.1 ≤ r.length ∧ AscOf (entF l 0 (pre ++ r.take z.1)) z.2.1) (fun z => r.length - z.1) (0, A, n) (⟨Nat.zero_le _, by simpa using hA⟩) (St.le_of (by repeat (first | exact trivial | refine ⟨rfl, ?_⟩)) (by repeat (first | exact q_r | apply q_q | apply q_k))) ?_
        intro z hI
        clear hA
        obtain ⟨j, A', n'⟩ := z
        obtain ⟨hJ1, hJ2⟩ := hI
        dsimp only at hJ1 hJ2 ⊢
        rw [hL3]
        by_cases hj : j < r.length
        · obtain ⟨c, hc⟩ : ∃ c, r[j]? = some c := get_some hj
          have hgc := sl_get hc
          have hcm := List.mem_of_getElem? hc
          have hcb := hcnt c hcm
          have hsn := entF_snoc l (pre ++ r.take j) c
          have hpj : (pre ++ r.take j).length = pre.length + j := by rw [List.length_append, List.length_take]; omega
          rw [List.append_assoc, ← take_get hc, hpj] at hsn
          have hz1 : ((pre.length + j : Nat) : Int) + 1 = ((pre.length + (j + 1) : Nat) : Int) := by omega
          clear hcnt hright hbk hc hcm
          by_cases hk : c.kind = 3
          · have hno : cntB l c = false := by rw [hcb, decide_eq_true hk]; rfl
            rw [hno, if_neg (by simp)] at hsn
            rw [← hsn] at hJ2
            refine zX (zZ ?_); refine xBi ?_; intro _ _; refine zY ?_; refine zX ?_; refine q_c (fun h h_k => ?_) (fun h h_k => ?_) <;> ((try subst h_k); (have hp := h; try simp only [q_n] at hp); (try (exfalso; first | omega | (cases hp; done))));
            refine zR ?_; refine zX ?_; refine zL ?_; refine zX (zZ ?_); refine xIx ?_; refine xLa ?_; refine xBa ?_; intro _; refine xSt ?_; refine zY ?_; refine zX ?_; refine zX (zZ ?_); refine xFa ?_; refine xLd ?_; refine xBi ?_; intro _ _; refine xMv ?_; refine q_d (fun h h_k => ?_) (fun h h_k => ?_) <;> ((try subst h_k); (have hp := h; try simp only [q_n] at hp); (try (exfalso; first | omega | (cases hp; done))));
            refine xSk ?_; refine xSk ?_; refine xSk ?_; refine xSk ?_; refine xSk ?_; refine xPf ?_; refine zY ?_; refine ex_cond_f rfl (by rfl) ?_; refine zR ?_; refine zZ ?_; refine xLd ?_; refine xAd ?_; refine xSt ?_; refine zN ?_; refine zZ ?_; refine xAd ?_; refine xMv ?_; refine zN ?_; simp only [zP, zU, zT, zW, retA, ↓reduceIte, Nat.reduceEqDiff]; rotate_left
            (all_goals (repeat (rename BV _ _ => hbv; first | cases hbv | clear hbv)))
            all_goals (try (first | cases ‹true = false› | cases ‹false = true›))
            rw [hz1]
            refine ⟨(j + 1, A', n'), ⟨hj, hJ2⟩, by dsimp only; omega, ?_⟩
            dsimp only
            exact q_le
          · cases hvo : (voidL r).contains c.seq with
            | true =>
              have hgd : ((boolM (voidL r).contains) c.seq).getD (.bool false) = .bool true := by rw [boolM_getD, hvo]
              have hno : cntB l c = false := by rw [hcb, hvo]; simp
              rw [hno, if_neg (by simp)] at hsn
              rw [← hsn] at hJ2
              refine zX (zZ ?_); refine xBi ?_; intro _ _; refine zY ?_; refine zX ?_; refine q_c (fun h h_k => ?_) (fun h h_k => ?_) <;> ((try subst h_k); (have hp := h; try simp only [q_n] at hp); (try (exfalso; first | omega | (cases hp; done))));
              refine zR ?_; refine zX ?_; refine zL ?_; refine zX (zZ ?_); refine xIx ?_; refine xLa ?_; refine xBa ?_; intro _; refine xSt ?_; refine zY ?_; refine zX ?_; refine zX (zZ ?_); refine xFa ?_; refine xLd ?_; refine xBi ?_; intro _ _; refine xMv ?_; refine q_d (fun h h_k => ?_) (fun h h_k => ?_) <;> ((try subst h_k); (have hp := h; try simp only [q_n] at hp); (try (exfalso; first | omega | (cases hp; done))));
              refine yMv ?_; refine yFa ?_; refine yLd ?_; show EXL _ _ _ ({ dst := _, op := .lookup _ _ _ _, type := _, pos := _, after := _, guard := _ } :: _) _ _; apply exl_isW; rfl; (rfl); rfl; rfl; exact g_lookup rfl rfl (by (repeat first | exact q_h | apply q_t | assumption); done) rfl rfl hgd; refine yNo ?_; intro _ _; refine xPt ?_; refine zY ?_; refine q_c (fun h h_k => ?_) (fun h h_k => ?_) <;> ((try subst h_k); (have hp := h; try simp only [q_n] at hp); (try (exfalso; first | omega | (cases hp; done))));
              refine zR ?_; refine zZ ?_; refine xLd ?_; refine xAd ?_; refine xSt ?_; refine zN ?_; refine zZ ?_; refine xAd ?_; refine xMv ?_; refine zN ?_; simp only [zP, zU, zT, zW, retA, ↓reduceIte, Nat.reduceEqDiff]; rotate_left
              (all_goals (repeat (rename BV _ _ => hbv; first | cases hbv | clear hbv)))
              all_goals (try (first | cases ‹true = false› | cases ‹false = true›))
              rw [hz1]
              refine ⟨(j + 1, A', n'), ⟨hj, hJ2⟩, by dsimp only; omega, ?_⟩
              dsimp only
              exact q_le
            | false =>
              have hgd : ((boolM (voidL r).contains) c.seq).getD (.bool false) = .bool false := by rw [boolM_getD, hvo]
              have hye : cntB l c = true := by rw [hcb, hvo, decide_eq_false hk]; rfl
              rw [hye, if_pos rfl] at hsn
              cases hK : kA A' c.turn with
              | some v =>
                obtain ⟨A1, L', A2, rfl⟩ := kA_some hK
                have hGD : ((slM (kA (A1 ++ (c.turn, v, L') :: A2))) c.turn).getD (.slv nilS) = .slv v := by unfold slM; rw [hK]; rfl
                have hrows : rowsA (A1 ++ (c.turn, v, L') :: A2) ++ σ = rowsA A1 ++ rowE v L' :: (rowsA A2 ++ σ) := by rw [rowsA_app, rowsA_cons]; simp
                have hup : ∀ v' l', Upd (rowsA A1 ++ rowE v L' :: (rowsA A2 ++ σ)) (rowE v L') (.row v' 80 9 l') (rowsA A1 ++ .row v' 80 9 l' :: (rowsA A2 ++ σ)) := fun v' l' => upd_mid _ _
                have hLl : L'.length ≤ 600 := by
                  have h1 := (hJ2.ent (c.turn, v, L') (by simp)).1
                  have h2 : (entF l 0 (pre ++ r.take j)).length ≤ (pre ++ r.take j).length := by
                    have : ∀ (m : List Sl) i, (entF l i m).length ≤ m.length := by
                      intro m
                      induction m with
                      | nil => intro i; simp [entF]
                      | cons x m ih => intro i; rw [entF]; have := ih (i + 1); split <;> simp <;> omega
                    exact this _ 0
                  have h3 := congrArg List.length h1
                  have h4 := List.length_filter_le (fun e : Ey => decide (e.2.turn = c.turn)) (entF l 0 (pre ++ r.take j))
                  dsimp only at h3
                  omega
                have hnew : ∀ v', AscOf (entF l 0 (pre ++ r.take (j + 1))) (A1 ++ (c.turn, v', L' ++ [(pre.length + j, c)]) :: A2) := fun v' => by rw [hsn]; exact asc_more (e := (pre.length + j, c)) hJ2
                have hmap : ∀ v', updA (slM (kA (A1 ++ (c.turn, v, L') :: A2))) c.turn (.slv v') = slM (kA (A1 ++ (c.turn, v', L' ++ [(pre.length + j, c)]) :: A2)) := fun v' => by
                  rw [upd_slM]
                  congr 1
                  funext q
                  have hk : (A1 ++ (c.turn, v', L' ++ [(pre.length + j, c)]) :: A2).map (·.1) = (A1 ++ (c.turn, v, L') :: A2).map (·.1) := by simp
                  rw [kA_mid hJ2.nd, kA_mid (by rw [hk]; exact hJ2.nd)]
                  dsimp only
                  by_cases hq : q = c.turn
                  · rw [if_pos hq, if_pos hq]
                  · rw [if_neg hq, if_neg hq, if_neg hq]
                have hrows2 : ∀ v', rowsA (A1 ++ (c.turn, v', L' ++ [(pre.length + j, c)]) :: A2) ++ σ = rowsA A1 ++ .row v' 80 9 (L'.map entC ++ [entC (pre.length + j, c)]) :: (rowsA A2 ++ σ) := fun v' => by rw [rowsA_app, rowsA_cons]; simp
                rw [hrows]
                clear hsn hcb hye hJ2 hK hrows
                refine zX (zZ ?_); refine xBi ?_; intro _ _; refine zY ?_; refine zX ?_; refine q_c (fun h h_k => ?_) (fun h h_k => ?_) <;> ((try subst h_k); (have hp := h; try simp only [q_n] at hp); (try (exfalso; first | omega | (cases hp; done))));
                refine zR ?_; refine zX ?_; refine zL ?_; refine zX (zZ ?_); refine xIx ?_; refine xLa ?_; refine xBa ?_; intro _; refine xSt ?_; refine zY ?_; refine zX ?_; refine zX (zZ ?_); refine xFa ?_; refine xLd ?_; refine xBi ?_; intro _ _; refine xMv ?_; refine q_d (fun h h_k => ?_) (fun h h_k => ?_) <;> ((try subst h_k); (have hp := h; try simp only [q_n] at hp); (try (exfalso; first | omega | (cases hp; done))));
                refine yMv ?_; refine yFa ?_; refine yLd ?_; show EXL _ _ _ ({ dst := _, op := .lookup _ _ _ _, type := _, pos := _, after := _, guard := _ } :: _) _ _; apply exl_isW; rfl; (rfl); rfl; rfl; exact g_lookup rfl rfl (by (repeat first | exact q_h | apply q_t | assumption); done) rfl rfl hgd; refine yNo ?_; intro _ _; refine xPt ?_; refine zY ?_; refine q_c (fun h h_k => ?_) (fun h h_k => ?_) <;> ((try subst h_k); (have hp := h; try simp only [q_n] at hp); (try (exfalso; first | omega | (cases hp; done))));
                rotate_left
                (all_goals (repeat (rename BV _ _ => hbv; first | cases hbv | clear hbv)))
                all_goals (try (first | cases ‹true = false› | cases ‹false = true›))
                refine ex_drawLK memK 12 [11] rfl (by kernel_rfl) rfl ?_
                simp only [List.take_succ_cons, List.take_zero, List.drop_succ_cons, List.drop_zero]
                refine wLd ?_; refine wFa ?_; refine wLd ?_; refine wLd ?_; refine wFa ?_; refine wLd ?_; apply wl_is; rfl; rfl; rfl; (intro σ' hl; exact g_lookup rfl rfl (hl _ True.intro (by (repeat first | exact q_h | apply q_t | assumption); done)) rfl rfl hGD); refine wLd ?_; refine wLa ?_; apply wl_is; rfl; rfl; rfl; (intro σ' hl; (apply g_build; rfl; rfl; rfl; rfl)); apply wl_is; rfl; rfl; rfl; (intro σ' hl; (exact gop_sealed (g_buildSlice rfl rfl (by decide) rfl rfl (by (simp only [chunkN, List.take_succ_cons, List.take_zero, List.drop_succ_cons, List.drop_zero]; rfl))))); refine wl_eff rfl rfl rfl (by apply g_append; rfl; rfl; rfl; (intro v'; (repeat (first | exact hup v' _ | apply Upd.there))); (exact .d); (intro y hy; simp only [List.mem_map, List.mem_cons, List.not_mem_nil, or_false, List.mem_append] at hy; (focus (obtain ⟨_, _, rfl⟩ := hy; rfl; done))); (refine app_ok ?_ (by kernel_rfl); (try simp only [List.length_append, List.length_map, List.length_cons, List.length_nil, List.length_take, List.length_drop]); omega)) ?_; rintro _ _ ⟨v'⟩; refine ⟨upd_keeps (by (repeat (first | exact hup v' _ | apply Upd.there))), ?_⟩; refine wl_nil ?_; apply exl_do; rfl; rfl; (apply g_mapUpdate; rfl; rfl; rfl; rfl; (exact Upd.there (Upd.there (Upd.there (Upd.there (Upd.there (Upd.there (Upd.there (Upd.here)))))))); (rfl)); refine zY ?_; refine zZ ?_; refine xLd ?_; refine xAd ?_; refine xSt ?_; refine zN ?_; refine zZ ?_; refine xAd ?_; refine xMv ?_; refine zN ?_; simp only [zP, zU, zT, zW, retA, ↓reduceIte, Nat.reduceEqDiff]; rotate_left
                (all_goals (repeat (rename BV _ _ => hbv; first | cases hbv | clear hbv)))
                all_goals (try (first | cases ‹true = false› | cases ‹false = true›))
                rename Value => v'
                rw [hz1, hmap]
                refine ⟨(j + 1, A1 ++ (c.turn, v', L' ++ [(pre.length + j, c)]) :: A2, if ((slM (kA (A1 ++ (c.turn, v, L') :: A2))) c.turn).isSome then n' else n' + 1), ⟨hj, hnew v'⟩, by dsimp only; omega, ?_⟩
                dsimp only
                rw [hrows2]
                exact q_le
              | none =>
                have hno : ∀ a ∈ A', a.1 ≠ c.turn := fun a ha hq => by
                  unfold kA at hK
                  rw [Option.map_eq_none_iff, List.find?_eq_none] at hK
                  have := hK a ha
                  simp at this; exact this hq
                have hGD : ((slM (kA A')) c.turn).getD (.slv nilS) = .slv nilS := by unfold slM; rw [hK]; rfl
                have hnew : ∀ v', AscOf (entF l 0 (pre ++ r.take (j + 1))) ((c.turn, v', [(pre.length + j, c)]) :: A') := fun v' => by rw [hsn]; exact asc_new (e := (pre.length + j, c)) hJ2 hno
                have hmap : ∀ v', updA (slM (kA A')) c.turn (.slv v') = slM (kA ((c.turn, v', [(pre.length + j, c)]) :: A')) := fun v' => by
                  rw [upd_slM]
                  congr 1
                  funext q
                  unfold kA
                  by_cases hq : q = c.turn
                  · rw [if_pos hq, List.find?_cons_of_pos (by simp [hq])]; rfl
                  · rw [if_neg hq, List.find?_cons_of_neg (by simp; omega)]
                clear hsn hcb hye hJ2 hK hno
                refine zX (zZ ?_); refine xBi ?_; intro _ _; refine zY ?_; refine zX ?_; refine q_c (fun h h_k => ?_) (fun h h_k => ?_) <;> ((try subst h_k); (have hp := h; try simp only [q_n] at hp); (try (exfalso; first | omega | (cases hp; done))));
                refine zR ?_; refine zX ?_; refine zL ?_; refine zX (zZ ?_); refine xIx ?_; refine xLa ?_; refine xBa ?_; intro _; refine xSt ?_; refine zY ?_; refine zX ?_; refine zX (zZ ?_); refine xFa ?_; refine xLd ?_; refine xBi ?_; intro _ _; refine xMv ?_; refine q_d (fun h h_k => ?_) (fun h h_k => ?_) <;> ((try subst h_k); (have hp := h; try simp only [q_n] at hp); (try (exfalso; first | omega | (cases hp; done))));
                refine yMv ?_; refine yFa ?_; refine yLd ?_; show EXL _ _ _ ({ dst := _, op := .lookup _ _ _ _, type := _, pos := _, after := _, guard := _ } :: _) _ _; apply exl_isW; rfl; (rfl); rfl; rfl; exact g_lookup rfl rfl (by (repeat first | exact q_h | apply q_t | assumption); done) rfl rfl hgd; refine yNo ?_; intro _ _; refine xPt ?_; refine zY ?_; refine q_c (fun h h_k => ?_) (fun h h_k => ?_) <;> ((try subst h_k); (have hp := h; try simp only [q_n] at hp); (try (exfalso; first | omega | (cases hp; done))));
                rotate_left
                (all_goals (repeat (rename BV _ _ => hbv; first | cases hbv | clear hbv)))
                all_goals (try (first | cases ‹true = false› | cases ‹false = true›))
                refine ex_drawLK memK 12 [11] rfl (by kernel_rfl) rfl ?_
                simp only [List.take_succ_cons, List.take_zero, List.drop_succ_cons, List.drop_zero]
                refine wLd ?_; refine wFa ?_; refine wLd ?_; refine wLd ?_; refine wFa ?_; refine wLd ?_; apply wl_is; rfl; rfl; rfl; (intro σ' hl; exact g_lookup rfl rfl (hl _ True.intro (by (repeat first | exact q_h | apply q_t | assumption); done)) rfl rfl hGD); refine wLd ?_; refine wLa ?_; apply wl_is; rfl; rfl; rfl; (intro σ' hl; (apply g_build; rfl; rfl; rfl; rfl)); apply wl_is; rfl; rfl; rfl; (intro σ' hl; (exact gop_sealed (g_buildSlice rfl rfl (by decide) rfl rfl (by (simp only [chunkN, List.take_succ_cons, List.take_zero, List.drop_succ_cons, List.drop_zero]; rfl))))); refine wl_row rfl rfl rfl (by apply g_appendNil; rfl; rfl; rfl; (exact .d); (intro y hy; simp only [List.mem_map, List.mem_cons, List.not_mem_nil, or_false, List.mem_append] at hy; (focus (obtain ⟨_, _, rfl⟩ := hy; rfl; done))); (refine app_ok ?_ (by kernel_rfl); (try simp only [List.length_append, List.length_map, List.length_cons, List.length_nil, List.length_take, List.length_drop]); omega)) ?_; intro v'; refine wl_nil ?_; show EXL _ _ _ ({ dst := _, op := .mapUpdate _ _ _ _, type := _, pos := _, after := _, guard := _ } :: _) _ _; refine exl_perm (List.perm_middle (l₁ := [_, _, _, _, _, _, _, _]) (l₂ := rowsA A' ++ σ)).symm ?_; simp only [List.cons_append, List.nil_append]; (apply exl_do; rfl; rfl; (apply g_mapUpdate; rfl; rfl; rfl; rfl; exact (by (exact Upd.there (Upd.there (Upd.there (Upd.there (Upd.there (Upd.there (Upd.there (Upd.here))))))))); rfl)); refine zY ?_; refine zZ ?_; refine xLd ?_; refine xAd ?_; refine xSt ?_; refine zN ?_; refine zZ ?_; refine xAd ?_; refine xMv ?_; refine zN ?_; simp only [zP, zU, zT, zW, retA, ↓reduceIte, Nat.reduceEqDiff]; rotate_left
                (all_goals (repeat (rename BV _ _ => hbv; first | cases hbv | clear hbv)))
                all_goals (try (first | cases ‹true = false› | cases ‹false = true›))
                rename Value => v'
                rw [hz1, hmap]
                refine ⟨(j + 1, (c.turn, v', [(pre.length + j, c)]) :: A', if ((slM (kA A')) c.turn).isSome then n' else n' + 1), ⟨hj, hnew v'⟩, by dsimp only; omega, ?_⟩
                dsimp only
                exact q_le
        · have e : j = r.length := by omega
          subst e
          rw [List.take_length] at hJ2
          rw [← List.length_append]
          refine zX (zZ ?_); refine xBi ?_; intro _ _; refine zY ?_; refine zX ?_; refine q_c (fun h h_k => ?_) (fun h h_k => ?_) <;> ((try subst h_k); (have hp := h; try simp only [q_n] at hp); (try (exfalso; first | omega | (cases hp; done))));
          refine ex_exit ?_; simp only [zP, zU, zT, zW, retA, ↓reduceIte, Nat.reduceEqDiff]; show rndA _ _ _ _ _ _ _ _ _ _ _; refine ⟨_, _, rfl, (by (exact Upd.there (Upd.here))), ?_⟩; simp only [zP, zU, zT, zW, retA, ↓reduceIte, Nat.reduceEqDiff]; rotate_left
          (all_goals (repeat (rename BV _ _ => hbv; first | cases hbv | clear hbv)))
          all_goals (try (first | cases ‹true = false› | cases ‹false = true›))
          subst hL hL3
          refine ⟨_, ?_, .inl ⟨rfl, A', n', rfl, hJ2⟩⟩
          exact (by repeat (first | exact q_r | apply q_q | apply q_k | exact q_a))
    · rintro r τ (⟨A, n, rfl, hA⟩ | h)
      · rw [List.take_length, runs_flat (Nat.le_refl _)] at hA ⊢
        rw [hL]
        refine RangeEnd.done .here ?_
        clear hL hL3 L L3
        show EX _ _ _ _ _
        refine zX ?_; refine zX (zZ ?_); refine xLd ?_; show EXL _ _ _ ({ dst := _, op := .range _ _, type := _, pos := _, after := _, guard := _ } :: _) _ _; refine exl_call rfl rfl rfl (g_rangeV rfl rfl (by intro e; exact (by (exact Upd.there (Upd.there (Upd.there (Upd.there (Upd.here)))))))) ?_; rintro _ _ ⟨rb, es, clock, hE⟩; refine zY ?_; refine zL ?_; rotate_left
        (all_goals (repeat (rename BV _ _ => hbv; first | cases hbv | clear hbv)))
        all_goals (try (first | cases ‹true = false› | cases ‹false = true›))
        have hkn := fun q => @kA_iff _ _ hA q
        have hS9 := fun K S => @turns_sorted l K S
        have hent : ∀ k v L, (k, v, L) ∈ A → L = entT l k := fun k v L h => (hA.ent _ h).1
        have hnd := hA.nd
        have hel := entL_len l
        have hnl := nums_len (entL l)
        rw [← show entL l = entF l 0 l from rfl] at hkn
        have hstart : rowsA A ++ σ = rowsA (leftA A []) ++ σ := by rw [leftA_nil]
        rw [hstart]
        clear hstart hA hbk h0
        refine ex_loop (fun (z : Array Nat × List Int × Value) => (⟨[(2, .slv z.2.2), (74, .ptr rb 0)], .obj rb (.mapIter (some bm) clock z.1 clock) :: .obj D (.deferred (some [])) :: .row z.2.2 64 4 ((z.2.1.map (turnS l)).map tnC) :: .obj bm (.map es clock) :: (rowsA (leftA A z.2.1) ++ σ), [D], Tryz.f13.ntmps⟩ : St)) (fun z => z.2.1.Nodup ∧ (∀ q, q ∈ z.2.1 ↔ Hit es z.1 q) ∧ ∀ q ∈ z.2.1, q ∈ numsE (entL l)) (fun z => (leftOf es z.1).size) (#[], [], nilS) (⟨.nil, fun q => ⟨fun h => by simp at h, fun h => absurd h (Hit.none es q)⟩, fun q h => by simp at h⟩) (St.le_of (by repeat (first | exact trivial | refine ⟨rfl, ?_⟩)) (by repeat (first | exact q_r | apply q_q | apply q_k))) ?_
        intro z hI
        obtain ⟨seen, K, vo⟩ := z
        obtain ⟨hI1, hI2, hI3⟩ := hI
        dsimp only at hI1 hI2 hI3 ⊢
        have hKl : K.length ≤ 600 := by
          have := nodup_len hI1 (fun q hq => hI3 q hq)
          omega
        refine zX (zZ ?_); show EXL _ _ _ ({ dst := _, op := .next _ _, type := _, pos := _, after := _, guard := _ } :: _) _ _; refine exl_call rfl rfl rfl (g_nextV hE rfl (by (repeat first | exact q_h | apply q_t | assumption); done) (by intro s; exact Upd.here)) ?_; rintro _ _ (hd | ⟨e, k, v, he, hk, hv, hsl, h0, hn, hpp, hm⟩); refine xEx ?_; refine zY ?_; refine zX ?_; refine ex_cond_f rfl (by rfl) ?_; refine ex_exit ?_; refine zX (zZ ?_); refine xMv ?_; rotate_left; refine xEx ?_; refine zY ?_; refine zX ?_; refine ex_cond_t rfl (by rfl) ?_; refine zR ?_; refine zL ?_; refine zX (zZ ?_); show EXL _ _ _ ({ dst := _, op := .entry _, type := _, pos := _, after := _, guard := _ } :: _) _ _; apply zQ; rfl; rfl; rfl; exact g_entryV hE he hk hv hsl rfl (by (repeat first | exact q_h | apply q_t | assumption); done) (by (repeat first | exact q_h | apply q_t | assumption); done); refine xEx ?_; refine xEx ?_; refine xAs ?_; refine xAs ?_; refine zY ?_; refine zX (zZ ?_); refine xMv ?_; rotate_left
        (all_goals (repeat (rename BV _ _ => hbv; first | cases hbv | clear hbv)))
        all_goals (try (first | cases ‹true = false› | cases ‹false = true›))
        · have hall : ∀ q, q ∈ K ↔ q ∈ numsE (entL l) := fun q => ⟨hI3 q, fun h => by
            obtain ⟨v, hv⟩ := (hkn q).2 h
            exact (hI2 q).2 (hd q v hv)⟩
          have hfin := fun S => hS9 K S hI1 hall
          have hlen : (K.map (turnS l)).length ≤ 100000 := by rw [List.length_map]; omega
          clear hd hkn hent hS9 hnd hI2 hI3 hall
          refine exl_call rfl rfl rfl (zK rfl rfl (zV (by kernel_rfl)) (scall_permu (List.perm_middle (l₁ := [_, _])) (sortTurn_c hlen))) ?_; rintro _ _ ⟨rfl, S, hS1, hS2, rfl⟩; simp only [List.cons_append, List.nil_append]; refine zY ?_; refine zX (zZ ?_); refine xMv ?_; refine xAs ?_; refine xAs ?_; refine zY ?_; refine zJ ?_; simp only [zP, zU, zT, zW, retA, ↓reduceIte, Nat.reduceEqDiff]; rotate_left
          (all_goals (repeat (rename BV _ _ => hbv; first | cases hbv | clear hbv)))
          all_goals (try (first | cases ‹true = false› | cases ‹false = true›))
          rw [← hfin S hS1 hS2]
          refine ret_q (σ3 := .row vo 64 4 (S.map tnC) :: σ) (.cons (Rem.there (.there .here)) .nil) (.cons (.ofTmp rfl) (.cons (.ofTmp rfl) .nil)) (by repeat (first | exact q_r | apply q_q | apply q_k | exact q_a)) ?_
          exact fin_seal .here (.tup (.here (.same .nil)) .nil) (fin_done ⟨rfl, rfl⟩)
        · have hkK : k ∉ K := fun h => hn ((hI2 k).1 h)
          obtain ⟨A1, L, A2, hA1, hA2, hmem⟩ := leftA_step hnd h0 hkK
          have hLd := hent k v L hmem
          have hLu : L.Pairwise (fun a b => a.1 < b.1) := by rw [hLd]; exact entT_up l k
          have hLl : L.length ≤ 2000 := by
            rw [hLd]
            have : (entT l k).length ≤ (entL l).length := List.length_filter_le _ _
            omega
          have hK2 : (K ++ [k]).Nodup := by
            rw [List.nodup_append]
            exact ⟨hI1, by simp, fun a ha b hb => by rw [List.mem_singleton] at hb; subst hb; exact fun h => hkK (h ▸ ha)⟩
          have hI2' : ∀ q, q ∈ K ++ [k] ↔ Hit es (seen.push e.born) q := fun q => by rw [hpp q, ← hI2 q]; simp
          have hI3' : ∀ q ∈ K ++ [k], q ∈ numsE (entL l) := fun q hq => by
            rcases List.mem_append.1 hq with hq | hq
            · exact hI3 q hq
            · rw [List.mem_singleton] at hq; subst hq; exact (hkn q).1 ⟨v, h0⟩
          have hrp := rows_perm A1 A2 k v L σ
          rw [hA1]
          rw [← hA2] at hrp
          obtain ⟨S, hSd⟩ : ∃ S, sortE L = S := ⟨_, rfl⟩
          have hSl : S.length ≤ 2000 := by rw [← hSd, sortE_len]; exact hLl
          have cst := sortStable_c L hLu hLl v
          rw [hSd] at cst
          have hturn : turnS l k = { S.foldl stepT ⟨k, 0, 0, []⟩ with twice := sortJ (S.foldl stepT ⟨k, 0, 0, []⟩).twice } := by rw [← hSd, hLd]; rfl
          have hidx : ∀ x ∈ S, x.1 ≤ 600 := fun x hx => by
            rw [← hSd, sortE_mem, hLd, entT_mem, entL_get] at hx
            have := get_lt hx.1.1
            omega
          clear hkn hent hS9 hnd hI1 hI2 hI3 hA1 hA2 hmem hLd hLu hSd hLl h0 hn hpp
          refine exl_call rfl rfl rfl (zK rfl rfl (zV (by kernel_rfl)) (scall_permu (hrp [_, _, _, _]) (cst _))) ?_; rintro _ _ ⟨rfl, rfl⟩; simp only [List.cons_append, List.nil_append]; refine zY ?_; refine zX (zZ ?_); refine xMv ?_; apply zQ; rfl; rfl; rfl; (apply g_build; rfl; rfl; rfl; rfl); refine xBa ?_; intro _; refine xSt ?_; refine zY ?_; refine zX ?_; refine zX (zZ ?_); refine xMv ?_; apply zQ; rfl; rfl; rfl; (apply g_len; rfl; rfl; (exact .inl ⟨_, _, _, (by (repeat first | exact q_h | apply q_t | assumption); done), (List.length_map _).symm⟩)); refine xMv ?_; refine zY ?_; refine zL ?_; simp only [zP, zU, zT, zW, retA, ↓reduceIte, Nat.reduceEqDiff]; rotate_left
          (all_goals (repeat (rename BV _ _ => hbv; first | cases hbv | clear hbv)))
          all_goals (try (first | cases ‹true = false› | cases ‹false = true›))
          rename Nat => b14
          clear cst hrp
          refine ex_nilRow 3 1 ?_
          obtain ⟨τ, hτ⟩ : ∃ τ, τ = Ent.obj rb (.mapIter (some bm) clock (seen.push e.born) clock) :: .obj D (.deferred (some [])) :: .row vo 64 4 ((K.map (turnS l)).map tnC) :: .obj bm (.map es clock) :: (rowsA (leftA A (K ++ [k])) ++ σ) := ⟨_, rfl⟩
          rw [← hτ]
          refine ex_loop (fun (z : Nat × Tn × Value) => (⟨[(2, .slv vo), (74, .ptr rb 0), (14, .ptr b14 0), (84, .slv v), (85, .int .i64 (S.length : Nat)), (86, .int .i64 z.1)], .row z.2.2 3 1 (z.2.1.twice.map intC) :: .cells b14 [.int .i64 z.2.1.turn, .int .i64 z.2.1.farm, .int .i64 z.2.1.given, .slv z.2.2] 64 :: rowE v S :: τ, [D], Tryz.f13.ntmps⟩ : St)) (fun z => z.1 ≤ S.length ∧ z.2.1 = (S.take z.1).foldl stepT ⟨k, 0, 0, []⟩) (fun z => S.length - z.1) (0, ⟨k, 0, 0, []⟩, nilS) (⟨Nat.zero_le _, rfl⟩) (St.le_of (by repeat (first | exact trivial | refine ⟨rfl, ?_⟩)) (by repeat (first | exact q_r | apply q_q | apply q_k))) ?_
          intro z hI
          obtain ⟨j, t, w⟩ := z
          obtain ⟨hJ1, hJ2⟩ := hI
          dsimp only at hJ1 hJ2 ⊢
          have hslen : (S.map entC).length = S.length := List.length_map _
          have htw : t.twice.length ≤ j := by
            rw [hJ2]
            have := fold_twice (S.take j) ⟨k, 0, 0, []⟩
            rw [List.length_take] at this
            simp at this; omega
          by_cases hj : j < S.length
          · obtain ⟨x, hx⟩ : ∃ x, S[j]? = some x := get_some hj
            have hgx := ent_get hx
            have hst := foldT_take hx ⟨k, 0, 0, []⟩
            rw [← hJ2] at hst
            have hxj := hidx x (List.mem_of_getElem? hx)
            clear hJ2 hx hτ hturn hI2' hI3' hK2 hE
            unfold stepT at hst
            by_cases hk2 : x.2.kind = 2
            · rw [if_pos hk2] at hst
              by_cases hg : t.given = 0
              · rw [if_pos hg] at hst
                refine zX (zZ ?_); refine xBi ?_; intro _ _; refine zY ?_; refine zX ?_; refine q_c (fun h h_k => ?_) (fun h h_k => ?_) <;> ((try subst h_k); (have hp := h; try simp only [q_n] at hp); (try (exfalso; first | omega | (cases hp; done))));
                refine zR ?_; refine zX ?_; refine zL ?_; refine zX (zZ ?_); apply zQ; rfl; rfl; rfl; (apply g_indexRow; rfl; rfl; exact (by (repeat first | exact q_h | apply q_t | assumption); done); rfl; (rfl); (omega)); refine xLa ?_; refine xBa ?_; intro _; refine xSt ?_; refine zY ?_; refine zL ?_; refine zX (zZ ?_); refine xFa ?_; refine xFa ?_; refine xLd ?_; refine xBi ?_; intro _ _; refine xMv ?_; refine q_d (fun h h_k => ?_) (fun h h_k => ?_) <;> ((try subst h_k); (have hp := h; try simp only [q_n] at hp); (try (exfalso; first | omega | (cases hp; done))));
                refine yFa ?_; refine yLd ?_; refine yBi ?_; intro _ _; refine xPt ?_; refine xAs ?_; refine zY ?_; refine q_c (fun h h_k => ?_) (fun h h_k => ?_) <;> ((try subst h_k); (have hp := h; try simp only [q_n] at hp); (try (exfalso; first | omega | (cases hp; done))));
                refine zZ ?_; refine xFa ?_; refine xFa ?_; refine xLd ?_; refine xFa ?_; refine xSt ?_; refine zN ?_; refine zZ ?_; refine xAd ?_; refine xMv ?_; refine zN ?_; simp only [zP, zU, zT, zW, retA, ↓reduceIte, Nat.reduceEqDiff]; rotate_left
                (all_goals (repeat (rename BV _ _ => hbv; first | cases hbv | clear hbv)))
                all_goals (try (first | cases ‹true = false› | cases ‹false = true›))
                refine ⟨(j + 1, { t with farm := x.2.farm }, w), ⟨hj, hst.symm⟩, by dsimp only; omega, ?_⟩
                dsimp only
                exact q_le
              · rw [if_neg hg] at hst
                refine zX (zZ ?_); refine xBi ?_; intro _ _; refine zY ?_; refine zX ?_; refine q_c (fun h h_k => ?_) (fun h h_k => ?_) <;> ((try subst h_k); (have hp := h; try simp only [q_n] at hp); (try (exfalso; first | omega | (cases hp; done))));
                refine zR ?_; refine zX ?_; refine zL ?_; refine zX (zZ ?_); apply zQ; rfl; rfl; rfl; (apply g_indexRow; rfl; rfl; exact (by (repeat first | exact q_h | apply q_t | assumption); done); rfl; (rfl); (omega)); refine xLa ?_; refine xBa ?_; intro _; refine xSt ?_; refine zY ?_; refine zL ?_; refine zX (zZ ?_); refine xFa ?_; refine xFa ?_; refine xLd ?_; refine xBi ?_; intro _ _; refine xMv ?_; refine q_d (fun h h_k => ?_) (fun h h_k => ?_) <;> ((try subst h_k); (have hp := h; try simp only [q_n] at hp); (try (exfalso; first | omega | (cases hp; done))));
                refine yFa ?_; refine yLd ?_; refine yBi ?_; intro _ _; refine xPt ?_; refine xAs ?_; refine zY ?_; refine q_c (fun h h_k => ?_) (fun h h_k => ?_) <;> ((try subst h_k); (have hp := h; try simp only [q_n] at hp); (try (exfalso; first | omega | (cases hp; done))));
                refine zX (zZ ?_); refine xFa ?_; refine xFa ?_; refine xLd ?_; refine xBi ?_; intro _ _; refine xMv ?_; refine q_d (fun h h_k => ?_) (fun h h_k => ?_) <;> ((try subst h_k); (have hp := h; try simp only [q_n] at hp); (try (exfalso; first | omega | (cases hp; done))));
                refine xSk ?_; refine xSk ?_; refine xSk ?_; refine xPf ?_; refine xAs ?_; refine zY ?_; refine ex_cond_f rfl (by rfl) ?_; refine zX (zZ ?_); refine xFa ?_; refine xFa ?_; refine xLd ?_; refine xBi ?_; intro _ _; refine xAs ?_; refine zY ?_; refine q_c (fun h h_k => ?_) (fun h h_k => ?_) <;> ((try subst h_k); (have hp := h; try simp only [q_n] at hp); (try (exfalso; first | omega | (cases hp; done))));
                refine zR ?_; refine zZ ?_; refine xAd ?_; refine xMv ?_; refine zN ?_; simp only [zP, zU, zT, zW, retA, ↓reduceIte, Nat.reduceEqDiff]; rotate_left
                (all_goals (repeat (rename BV _ _ => hbv; first | cases hbv | clear hbv)))
                all_goals (try (first | cases ‹true = false› | cases ‹false = true›))
                refine ⟨(j + 1, t, w), ⟨hj, hst.symm⟩, by dsimp only; omega, ?_⟩
                dsimp only
                exact q_le
            · rw [if_neg hk2] at hst
              by_cases hk1 : x.2.kind = 1
              · rw [if_pos hk1] at hst
                by_cases hg : t.given = 0
                · rw [if_pos hg] at hst
                  refine zX (zZ ?_); refine xBi ?_; intro _ _; refine zY ?_; refine zX ?_; refine q_c (fun h h_k => ?_) (fun h h_k => ?_) <;> ((try subst h_k); (have hp := h; try simp only [q_n] at hp); (try (exfalso; first | omega | (cases hp; done))));
                  refine zR ?_; refine zX ?_; refine zL ?_; refine zX (zZ ?_); apply zQ; rfl; rfl; rfl; (apply g_indexRow; rfl; rfl; exact (by (repeat first | exact q_h | apply q_t | assumption); done); rfl; (rfl); (omega)); refine xLa ?_; refine xBa ?_; intro _; refine xSt ?_; refine zY ?_; refine zL ?_; refine zX (zZ ?_); refine xFa ?_; refine xFa ?_; refine xLd ?_; refine xBi ?_; intro _ _; refine xMv ?_; refine q_d (fun h h_k => ?_) (fun h h_k => ?_) <;> ((try subst h_k); (have hp := h; try simp only [q_n] at hp); (try (exfalso; first | omega | (cases hp; done))));
                  refine xSk ?_; refine xSk ?_; refine xSk ?_; refine xPf ?_; refine xAs ?_; refine zY ?_; refine ex_cond_f rfl (by rfl) ?_; refine zX (zZ ?_); refine xFa ?_; refine xFa ?_; refine xLd ?_; refine xBi ?_; intro _ _; refine xMv ?_; refine q_d (fun h h_k => ?_) (fun h h_k => ?_) <;> ((try subst h_k); (have hp := h; try simp only [q_n] at hp); (try (exfalso; first | omega | (cases hp; done))));
                  refine yFa ?_; refine yLd ?_; refine yBi ?_; intro _ _; refine xPt ?_; refine xAs ?_; refine zY ?_; refine q_c (fun h h_k => ?_) (fun h h_k => ?_) <;> ((try subst h_k); (have hp := h; try simp only [q_n] at hp); (try (exfalso; first | omega | (cases hp; done))));
                  rotate_left
                  (all_goals (repeat (rename BV _ _ => hbv; first | cases hbv | clear hbv)))
                  all_goals (try (first | cases ‹true = false› | cases ‹false = true›))
                  rename Nat => b16
                  refine ex_drfT (fun y => y = .cells b16 (entC x) 80) [7] 8 rfl (by kernel_rfl) rfl ?_
                  simp only [List.take_succ_cons, List.take_zero, List.drop_succ_cons, List.drop_zero]
                  refine dVl ?_; refine dFa ?_; refine dVl ?_; refine dLd ?_; refine dVl ?_; apply drv_is; rfl; rfl; (intro σ' hl; (apply g_add; rfl; rfl; rfl; exact ⟨by omega, by omega⟩)); refine dVl ?_; refine dFa ?_; refine dVl ?_; refine dFa ?_; refine dVl ?_; refine dLd ?_; refine dVl ?_; refine dFa ?_; refine drf_one rfl rfl ?_; apply drs_do; rfl; rfl; (apply g_store'; rfl; rfl; rfl; (exact Upd.there (Upd.there (Upd.here))); (simp only [setL, q_z, AV.cells]; rfl); rfl; rfl; rfl; exact q_b rfl); (rintro _ (rfl | rfl | rfl) _ <;> exact (by (repeat first | exact q_h | apply q_t | assumption); done)); refine drf_nil rfl ?_; refine xFa ?_; refine xSt ?_; refine zN ?_; refine zZ ?_; refine xAd ?_; refine xMv ?_; refine zN ?_; simp only [zP, zU, zT, zW, retA, ↓reduceIte, Nat.reduceEqDiff]; rotate_left
                  (all_goals (repeat (rename BV _ _ => hbv; first | cases hbv | clear hbv)))
                  all_goals (try (first | cases ‹true = false› | cases ‹false = true›))
                  refine ⟨(j + 1, { t with given := (x.1 : Int) + 1, farm := x.2.farm }, w), ⟨hj, hst.symm⟩, by dsimp only; omega, ?_⟩
                  dsimp only
                  exact q_le
                · rw [if_neg hg] at hst
                  refine zX (zZ ?_); refine xBi ?_; intro _ _; refine zY ?_; refine zX ?_; refine q_c (fun h h_k => ?_) (fun h h_k => ?_) <;> ((try subst h_k); (have hp := h; try simp only [q_n] at hp); (try (exfalso; first | omega | (cases hp; done))));
                  refine zR ?_; refine zX ?_; refine zL ?_; refine zX (zZ ?_); apply zQ; rfl; rfl; rfl; (apply g_indexRow; rfl; rfl; exact (by (repeat first | exact q_h | apply q_t | assumption); done); rfl; (rfl); (omega)); refine xLa ?_; refine xBa ?_; intro _; refine xSt ?_; refine zY ?_; refine zL ?_; refine zX (zZ ?_); refine xFa ?_; refine xFa ?_; refine xLd ?_; refine xBi ?_; intro _ _; refine xMv ?_; refine q_d (fun h h_k => ?_) (fun h h_k => ?_) <;> ((try subst h_k); (have hp := h; try simp only [q_n] at hp); (try (exfalso; first | omega | (cases hp; done))));
                  refine xSk ?_; refine xSk ?_; refine xSk ?_; refine xPf ?_; refine xAs ?_; refine zY ?_; refine ex_cond_f rfl (by rfl) ?_; refine zX (zZ ?_); refine xFa ?_; refine xFa ?_; refine xLd ?_; refine xBi ?_; intro _ _; refine xMv ?_; refine q_d (fun h h_k => ?_) (fun h h_k => ?_) <;> ((try subst h_k); (have hp := h; try simp only [q_n] at hp); (try (exfalso; first | omega | (cases hp; done))));
                  refine yFa ?_; refine yLd ?_; refine yBi ?_; intro _ _; refine xPt ?_; refine xAs ?_; refine zY ?_; refine q_c (fun h h_k => ?_) (fun h h_k => ?_) <;> ((try subst h_k); (have hp := h; try simp only [q_n] at hp); (try (exfalso; first | omega | (cases hp; done))));
                  refine zX (zZ ?_); refine xFa ?_; refine xFa ?_; refine xLd ?_; refine xBi ?_; intro _ _; refine xAs ?_; refine zY ?_; refine q_c (fun h h_k => ?_) (fun h h_k => ?_) <;> ((try subst h_k); (have hp := h; try simp only [q_n] at hp); (try (exfalso; first | omega | (cases hp; done))));
                  refine zZ ?_; refine xFa ?_; refine xLd ?_; refine xFa ?_; refine xLd ?_; refine exl_row rfl rfl rfl (by exact g_buildSlice rfl rfl (by decide) rfl rfl (by (simp only [chunkN, List.take_succ_cons, List.take_zero, List.drop_succ_cons, List.drop_zero]; rfl))) ?_; intro _; apply exl_grew; rfl; rfl; rfl; (apply g_append; rfl; rfl; rfl; (intro v'; (exact Upd.there (Upd.there (Upd.here)))); (exact .r (by (repeat first | exact q_h | apply q_t | assumption); done)); (intro y hy; simp only [List.mem_map, List.mem_cons, List.not_mem_nil, or_false, List.mem_append] at hy; (focus (obtain ⟨_, _, rfl⟩ := hy; rfl; done))); (refine app_ok ?_ (by kernel_rfl); (try simp only [List.length_append, List.length_map, List.length_cons, List.length_nil, List.length_take, List.length_drop]); omega)); intro _; refine xFa ?_; refine xSt ?_; refine zN ?_; refine zZ ?_; refine xAd ?_; refine xMv ?_; refine zN ?_; simp only [zP, zU, zT, zW, retA, ↓reduceIte, Nat.reduceEqDiff]; rotate_left
                  (all_goals (repeat (rename BV _ _ => hbv; first | cases hbv | clear hbv)))
                  all_goals (try (first | cases ‹true = false› | cases ‹false = true›))
                  rename Value => w2
                  refine ⟨(j + 1, { t with twice := t.twice ++ [(x.1 : Int)] }, w2), ⟨hj, hst.symm⟩, by dsimp only; omega, ?_⟩
                  dsimp only
                  rw [List.map_append]
                  exact q_le
              · rw [if_neg hk1] at hst
                refine zX (zZ ?_); refine xBi ?_; intro _ _; refine zY ?_; refine zX ?_; refine q_c (fun h h_k => ?_) (fun h h_k => ?_) <;> ((try subst h_k); (have hp := h; try simp only [q_n] at hp); (try (exfalso; first | omega | (cases hp; done))));
                refine zR ?_; refine zX ?_; refine zL ?_; refine zX (zZ ?_); apply zQ; rfl; rfl; rfl; (apply g_indexRow; rfl; rfl; exact (by (repeat first | exact q_h | apply q_t | assumption); done); rfl; (rfl); (omega)); refine xLa ?_; refine xBa ?_; intro _; refine xSt ?_; refine zY ?_; refine zL ?_; refine zX (zZ ?_); refine xFa ?_; refine xFa ?_; refine xLd ?_; refine xBi ?_; intro _ _; refine xMv ?_; refine q_d (fun h h_k => ?_) (fun h h_k => ?_) <;> ((try subst h_k); (have hp := h; try simp only [q_n] at hp); (try (exfalso; first | omega | (cases hp; done))));
                refine xSk ?_; refine xSk ?_; refine xSk ?_; refine xPf ?_; refine xAs ?_; refine zY ?_; refine ex_cond_f rfl (by rfl) ?_; refine zX (zZ ?_); refine xFa ?_; refine xFa ?_; refine xLd ?_; refine xBi ?_; intro _ _; refine xMv ?_; refine q_d (fun h h_k => ?_) (fun h h_k => ?_) <;> ((try subst h_k); (have hp := h; try simp only [q_n] at hp); (try (exfalso; first | omega | (cases hp; done))));
                refine xSk ?_; refine xSk ?_; refine xSk ?_; refine xPf ?_; refine xAs ?_; refine zY ?_; refine ex_cond_f rfl (by rfl) ?_; refine zX (zZ ?_); refine xFa ?_; refine xFa ?_; refine xLd ?_; refine xBi ?_; intro _ _; refine xAs ?_; refine zY ?_; refine q_c (fun h h_k => ?_) (fun h h_k => ?_) <;> ((try subst h_k); (have hp := h; try simp only [q_n] at hp); (try (exfalso; first | omega | (cases hp; done))));
                refine zR ?_; refine zZ ?_; refine xAd ?_; refine xMv ?_; refine zN ?_; simp only [zP, zU, zT, zW, retA, ↓reduceIte, Nat.reduceEqDiff]; rotate_left
                (all_goals (repeat (rename BV _ _ => hbv; first | cases hbv | clear hbv)))
                all_goals (try (first | cases ‹true = false› | cases ‹false = true›))
                refine ⟨(j + 1, t, w), ⟨hj, hst.symm⟩, by dsimp only; omega, ?_⟩
                dsimp only
                exact q_le
          · have e : j = S.length := by omega
            subst e
            rw [List.take_length] at hJ2
            rw [← hJ2] at hturn
            have hsj := sortIJ t.twice
            have hcells : [AV.int .i64 t.turn, .int .i64 t.farm, .int .i64 t.given, .dl 1 ((sortI t.twice).map intC)] = tnC (turnS l k) := by rw [hturn, hsj]
            have hKm : ((K ++ [k]).map (turnS l)).map tnC = (K.map (turnS l)).map tnC ++ [tnC (turnS l k)] := by simp
            have htl : t.twice.length < 4611686018427387904 := by omega
            clear hJ2 hsj hturn hidx
            rw [hτ]
            refine zX (zZ ?_); refine xBi ?_; intro _ _; refine zY ?_; refine zX ?_; refine q_c (fun h h_k => ?_) (fun h h_k => ?_) <;> ((try subst h_k); (have hp := h; try simp only [q_n] at hp); (try (exfalso; first | omega | (cases hp; done))));
            refine ex_exit ?_; refine zX (zZ ?_); refine xFa ?_; refine xLd ?_; refine exl_call rfl rfl rfl (zK rfl rfl (zV (by kernel_rfl)) (sort_c Upd.here htl)) ?_; rintro _ _ ⟨rfl, rfl⟩; refine exl_shut (v := w) (env' := [(2, .slv vo), (74, .ptr rb 0), (14, .ptr b14 0)]) .here (.cells (.same (.same (.same (.here .nil)))) (ShutEnts.refl _)) (by repeat (first | exact .nil | refine .same rfl ?_)) ?_; refine zY ?_; refine zZ ?_; refine xMv ?_; refine xLa ?_; apply zQ; rfl; rfl; rfl; (exact gop_sealed (g_buildSlice rfl rfl (by decide) rfl rfl (by (simp only [chunkN, List.take_succ_cons, List.take_zero, List.drop_succ_cons, List.drop_zero]; rfl)))); apply exl_grew; rfl; rfl; rfl; (apply g_append; rfl; rfl; rfl; (intro v'; (exact Upd.there (Upd.there (Upd.there (Upd.there (Upd.here)))))); (exact .d); (intro y hy; simp only [List.mem_map, List.mem_cons, List.not_mem_nil, or_false, List.mem_append] at hy; (focus (obtain ⟨_, _, rfl⟩ := hy; rfl; done))); (refine app_ok ?_ (by kernel_rfl); (try simp only [List.length_append, List.length_map, List.length_cons, List.length_nil, List.length_take, List.length_drop]); omega)); intro _; refine xAs ?_; refine zN ?_; simp only [zP, zU, zT, zW, retA, ↓reduceIte, Nat.reduceEqDiff]; rotate_left
            (all_goals (repeat (rename BV _ _ => hbv; first | cases hbv | clear hbv)))
            all_goals (try (first | cases ‹true = false› | cases ‹false = true›))
            rename Value => vo2
            refine ⟨(seen.push e.born, K ++ [k], vo2), ⟨hK2, hI2', hI3'⟩, hm, ?_⟩
            dsimp only
            rw [hKm, ← hcells]
            exact q_le
      · exact h.elim
  · rw [show turnsS l = ([], checkS l) by unfold turnsS; rw [if_pos h0]]
    refine zX (zZ ?_); refine xBb ?_; intro _; refine xAs ?_; refine xAs ?_; refine zY ?_; refine zX ?_; refine zX (zZ ?_); refine xLa ?_; apply zQ; rfl; rfl; rfl; (refine zK rfl rfl (zV (by kernel_rfl)) ?_; exact c1 _); refine xAs ?_; refine zY ?_; refine zX (zZ ?_); refine xMv ?_; refine xBi ?_; intro _ _; refine zY ?_; refine q_c (fun h h_k => ?_) (fun h h_k => ?_) <;> ((try subst h_k); (have hp := h; try simp only [q_n] at hp); (try (exfalso; first | omega | (cases hp; done))));
    refine zX (zZ ?_); refine xMv ?_; refine xAs ?_; refine xAs ?_; refine zY ?_; refine zJ ?_; simp only [zP, zU, zT, zW, retA, ↓reduceIte, Nat.reduceEqDiff]; rotate_left
    (all_goals (repeat (rename BV _ _ => hbv; first | cases hbv | clear hbv)))
    all_goals (try (first | cases ‹true = false› | cases ‹false = true›))
    refine q_rq (σ3 := σ) ?_
    exact fin_nil (sz := 4) (.tup (.here (.same .nil)) .nil) (fin_done ⟨rfl, rfl⟩)
end Go.Proofs.YtkhoengjdfmfaaaGreat
