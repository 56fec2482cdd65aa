/- A logic of abstract values: ranges over maps of ints. While the range runs, the map lies open: its entries, and the iterator, are told as they are. -/
import Derived.Test.YtobcnochlkdpaaaSx
import Derived.Maps.RangeRun
namespace Go.Proofs.Ytobcnochlkdpaaa
set_option linter.unusedSimpArgs false
set_option linter.unusedVariables false
open Go.MapKept

/-- The entries of a map of ints. -/
structure MapE (es : Array MapEntry) (clock : Nat) (K : Int → Int) (n : Nat) : Prop where
  st : Stamped es clock
  ks : ∀ e ∈ es.toList, ∃ a, e.key = .int .i64 a ∧ K a ≠ 0 ∧ e.val = .int .i64 (K a)
  al : ∀ a, K a ≠ 0 → ∃ e ∈ es.toList, e.key = .int .i64 a
  sz : es.size = n

/-- A key has been handed out. -/
def Hit (es : Array MapEntry) (seen : Array Nat) (q : Int) : Prop := ∃ e ∈ es.toList, e.key = .int .i64 q ∧ seen.contains e.born = true
theorem Hit.none (es : Array MapEntry) (q : Int) : ¬ Hit es #[] q := by
  rintro ⟨e, _, _, h⟩; simp at h
theorem MapE.same {es : Array MapEntry} {clock n : Nat} {K : Int → Int} (h : MapE es clock K n) {e f : MapEntry} (he : e ∈ es.toList) (hf : f ∈ es.toList) (hk : e.key = f.key ∨ e.born = f.born) : e = f := by
  obtain ⟨i, hi⟩ := List.mem_iff_getElem?.1 he
  obtain ⟨j, hj⟩ := List.mem_iff_getElem?.1 hf
  have hij : i = j := by
    rcases hk with hk | hk
    · have a1 : (es.toList.map (·.key))[i]? = some e.key := by rw [List.getElem?_map, hi]; rfl
      have a2 : (es.toList.map (·.key))[j]? = some e.key := by rw [List.getElem?_map, hj, hk]; rfl
      exact (List.getElem?_inj (List.getElem?_eq_some_iff.1 a1).1 h.st.2.2).1 (a1.trans a2.symm)
    · have a1 : (es.toList.map (·.born))[i]? = some e.born := by rw [List.getElem?_map, hi]; rfl
      have a2 : (es.toList.map (·.born))[j]? = some e.born := by rw [List.getElem?_map, hj, hk]; rfl
      exact (List.getElem?_inj (List.getElem?_eq_some_iff.1 a1).1 h.st.2.1).1 (a1.trans a2.symm)
  subst hij
  rw [hi] at hj
  exact Option.some.inj hj
theorem MapE.push {es : Array MapEntry} {clock n : Nat} {K : Int → Int} (h : MapE es clock K n) {e : MapEntry} (he : e ∈ es.toList) {k : Int} (hk : e.key = .int .i64 k) {seen : Array Nat} {q : Int} (hq : Hit es (seen.push e.born) q) : Hit es seen q ∨ q = k := by
  obtain ⟨f, hf, hfk, hs⟩ := hq
  rw [contains_push, Bool.or_eq_true, beq_iff_eq] at hs
  rcases hs with hs | hs
  · exact .inl ⟨f, hf, hfk, hs⟩
  · obtain rfl := h.same hf he (.inr hs)
    rw [hk] at hfk
    exact .inr (by simpa using hfk.symm)
theorem MapE.fresh {es : Array MapEntry} {clock n : Nat} {K : Int → Int} (h : MapE es clock K n) {e : MapEntry} (he : e ∈ es.toList) {k : Int} (hk : e.key = .int .i64 k) {seen : Array Nat} (hs : seen.contains e.born = false) : ¬ Hit es seen k := by
  rintro ⟨f, hf, hfk, hs2⟩
  obtain rfl := h.same hf he (.inl (by rw [hfk, hk]))
  rw [hs] at hs2; cases hs2

section
variable {P : Program} {ro : Option Nat} {env : Env} {σ : List Ent} {dst : Option Tmp} {ty : TypeId} {pos : String} {after : Array Edge} {guard : Option (Nat × Bool)}

/-- What a range over a map begins with. -/
inductive Ranged (b : Nat) (K : Int → Int) (n : Nat) (σ1 : Ent → List Ent) : AV → List Ent → Prop
  | mk (r : Nat) (es : Array MapEntry) (clock : Nat) (h : MapE es clock K n) : Ranged b K n σ1 (.ptr r 0) (.obj r (.mapIter (some b) clock #[] clock) :: σ1 (.obj b (.map es clock)))
theorem g_rangeMap {t et : TypeId} {x : Operand} {b n : Nat} {K : Int → Int} {σ1 : Ent → List Ent} (ht : mapOf P t = some et) (hx : evA env x = some (.mp b)) (hu : ∀ e, Upd σ (.imap b (intM K) n) e (σ1 e)) :
    GOp P ro ⟨dst, .range t x, ty, pos, after, guard⟩ env σ (Ranged b K n σ1) :=
  gop_run (by intro c h; cases h) fun X M a w hg ho => by
    have h1 := ho x (by simp [Op.operands]) _ hx
    simp only [VRel] at h1
    obtain ⟨kt, e1, e2⟩ := mapOf_spec ht
    obtain ⟨g, ⟨es, clock, hb, hs, hks, hk1, hk2, hsz⟩, hg2⟩ := hg.ent _ (hu (.obj b (.map #[] 0))).mem
    have hE : MapE es clock K n := by
      refine ⟨hs, fun e he => ?_, fun q hq => ?_, hsz⟩
      · obtain ⟨q, hq⟩ := hks e he
        have h3 := hk1 e he q hq
        have h4 := hg2 q
        rw [h3] at h4
        unfold intM at h4
        by_cases h0 : K q = 0
        · rw [if_pos h0] at h4; exact h4.elim
        · rw [if_neg h0] at h4
          exact ⟨q, hq, h0, by simpa [VRel] using h4⟩
      · have h4 := hg2 q
        unfold intM at h4
        rw [if_neg hq] at h4
        cases hgq : g q with
        | none => rw [hgq] at h4; exact h4.elim
        | some v => exact hk2 q v hgq
    have hg3 : Good X M (σ1 (.obj b (.map es clock))) w := hg.upd (hu _) rfl rfl rfl (fun _ _ _ => rfl) hb (.inl rfl)
    refine ⟨M, .pointer (some ⟨w.heap.size, 0, none⟩), w.alloc (.mapIter (some b) clock #[] clock), .ptr w.heap.size 0, _, Mem.le_refl M, hg3.alloc _ (.obj w.heap.size (.mapIter (some b) clock #[] clock)) rfl (Go.heap_alloc_new w _), by simp [VRel], .mk _ es clock hE, .inl ?_⟩
    have := run_range_map (P := P) w t kt et b es clock e1 hb
    simp [execOp, h1, Sem.run_bind, this]

/-- What a step of it hands out: nothing more; or a key that has not yet been handed out, with its value. -/
inductive Nexted (b r : Nat) (K : Int → Int) (es : Array MapEntry) (clock : Nat) (seen : Array Nat) (σ : List Ent) (σ1 : Array Nat → List Ent) : AV → List Ent → Prop
  | done (h : ∀ q, K q ≠ 0 → Hit es seen q) : Nexted b r K es clock seen σ σ1 (.tup [.bool false]) σ
  | step (e : MapEntry) (k : Int) (he : e ∈ es.toList) (hk : e.key = .int .i64 k) (hv : e.val = .int .i64 (K k)) (h0 : K k ≠ 0) (hn : ¬ Hit es seen k) (hp : ∀ q, Hit es (seen.push e.born) q → Hit es seen q ∨ q = k) (hm : (leftOf es (seen.push e.born)).size < (leftOf es seen).size) :
      Nexted b r K es clock seen σ σ1 (.tup [.bool true, .int .i64 k, .int .i64 (K k)]) (σ1 (seen.push e.born))
theorem g_next {x : Operand} {b r n clock : Nat} {K : Int → Int} {es : Array MapEntry} {seen : Array Nat} {σ1 : Array Nat → List Ent} (hE : MapE es clock K n) (hx : evA env x = some (.ptr r 0)) (hm : Ent.obj b (.map es clock) ∈ σ) (hu : ∀ s, Upd σ (.obj r (.mapIter (some b) clock seen clock)) (.obj r (.mapIter (some b) clock s clock)) (σ1 s)) :
    GOp P ro ⟨dst, .next x false, ty, pos, after, guard⟩ env σ (Nexted b r K es clock seen σ σ1) :=
  gop_run (by intro c h; cases h) fun X M a w hg ho => by
    have h1 := ho x (by simp [Op.operands]) _ hx
    simp only [VRel] at h1
    have hb : w.heap[b]? = some (.map es clock) := hg.ent _ hm
    have hr : w.heap[r]? = some (.mapIter (some b) clock seen clock) := hg.ent _ (hu seen).mem
    rcases run_next_at (P := P) w ty r b clock clock seen es clock hr hb hE.st.1 (Nat.le_refl _) with ⟨h0, hrun⟩ | ⟨e, he, w1, hw1, hrun⟩
    · refine ⟨M, .tuple #[.bool false], w, .tup [.bool false], σ, Mem.le_refl M, hg, ?_, .done fun q hq => ?_, .inl ?_⟩
      · simp only [VRel, VRels]; exact ⟨_, rfl, _, _, rfl, rfl, rfl⟩
      · obtain ⟨e, he, hk⟩ := hE.al q hq
        refine ⟨e, he, hk, ?_⟩
        cases hs : seen.contains e.born with
        | true => rfl
        | false =>
          have hmem : e ∈ leftOf es seen := Array.mem_filter.2 ⟨Array.mem_toList_iff.1 he, by rw [hs]; rfl⟩
          rw [Array.eq_empty_of_size_eq_zero h0] at hmem
          simp at hmem
      · simp [execOp, h1, Sem.run_bind, hrun]
    · obtain ⟨hel, hes⟩ := mem_left he
      obtain ⟨k, hk, h0, hv⟩ := hE.ks e hel
      have hg1 : Good X M σ w1 := by rcases hw1 with rfl | rfl; exact hg; exact hg.drew
      have hr1 : w1.heap[r]? = some (.mapIter (some b) clock seen clock) := hg1.ent _ (hu seen).mem
      have hset := Go.MapKept.heap_set (o' := Obj.mapIter (some b) clock (seen.push e.born) clock) hr1
      refine ⟨M, .tuple #[.bool true, e.key, e.val], Go.ChangeMaps.setBlock w1 r (.mapIter (some b) clock (seen.push e.born) clock), .tup [.bool true, .int .i64 k, .int .i64 (K k)], _, Mem.le_refl M, ?_, ?_, .step e k hel hk hv h0 (hE.fresh hel hk hes) (fun q hq => hE.push hel hk hq) (left_shrinks es seen e he), .inl ?_⟩
      · refine hg1.upd (hu _) rfl rfl rfl (fun i hi hne => hset.2 i fun e => hne (by rw [e]; rfl)) hset.1 (.inl rfl)
      · rw [hk, hv]
        simp only [VRel, VRels]
        exact ⟨_, rfl, _, _, rfl, rfl, _, _, rfl, rfl, _, _, rfl, rfl, rfl⟩
      · simp [execOp, h1, Sem.run_bind, hrun]
theorem g_entry {x : Operand} {b r n clock : Nat} {K : Int → Int} {es : Array MapEntry} {seen : Array Nat} {e : MapEntry} {k : Int} (hE : MapE es clock K n) (he : e ∈ es.toList) (hk : e.key = .int .i64 k) (hv : e.val = .int .i64 (K k)) (hx : evA env x = some (.ptr r 0)) (hm : Ent.obj b (.map es clock) ∈ σ) (hr : Ent.obj r (.mapIter (some b) clock (seen.push e.born) clock) ∈ σ) :
    GOp P ro ⟨dst, .entry x, ty, pos, after, guard⟩ env σ (Is (.tup [.int .i64 k, .int .i64 (K k)]) σ) :=
  gop_pure _ (by intro c h; cases h) fun X M a w hg ho => by
    have h1 := ho x (by simp [Op.operands]) _ hx
    simp only [VRel] at h1
    have hrun := run_entry_at (P := P) w r b clock seen es clock e (hg.ent _ hr) (hg.ent _ hm) he hE.st.2.1
    refine ⟨.tuple #[e.key, e.val], ?_, by simp [execOp, h1, Sem.run_bind, hrun]⟩
    rw [hk, hv]
    simp only [VRel, VRels]
    exact ⟨_, rfl, _, _, rfl, rfl, _, _, rfl, rfl, rfl⟩
end
end Go.Proofs.Ytobcnochlkdpaaa
