/- A map keyed by int that lies in memory, told as a function from keys to what is stored; its look-ups and stores. -/
import Derived.Test.YtobcnochlkdpaaaProg
import Derived.MapKept
import Derived.Carry
import Derived.Below
import Derived.RangeFuncRecord
import Derived.Laws.AppendOwn
namespace Go.Proofs.Ytobcnochlkdpaaa
set_option linter.unusedSimpArgs false
set_option linter.unusedVariables false
open Go.RowKit Go.MapKept

/-- Block b is a map keyed by int that holds, for each key, what f says. -/
def MapN (w : World) (b : Nat) (f : Int → Option Value) (n : Nat) : Prop :=
  ∃ es clock, w.heap[b]? = some (.map es clock) ∧ Stamped es clock ∧ (∀ e ∈ es.toList, ∃ a, e.key = .int .i64 a) ∧
    (∀ e ∈ es.toList, ∀ a, e.key = .int .i64 a → f a = some e.val) ∧ (∀ a v, f a = some v → ∃ e ∈ es.toList, e.key = .int .i64 a) ∧ es.size = n

theorem MapN.lt {w : World} {b : Nat} {f : Int → Option Value} {n : Nat} (h : MapN w b f n) : b < w.heap.size := by
  obtain ⟨es, clock, hb, _⟩ := h
  exact (Array.getElem?_eq_some_iff.1 hb).1

theorem MapN.of_block {w w' : World} {b : Nat} {f : Int → Option Value} {n : Nat} (h : MapN w b f n) (hb : w'.heap[b]? = w.heap[b]?) : MapN w' b f n := by
  obtain ⟨es, clock, hh, r⟩ := h
  exact ⟨es, clock, hb.trans hh, r⟩

theorem MapN.made (w : World) : MapN (w.alloc (.map #[] 0)) w.heap.size (fun _ => none) 0 :=
  ⟨#[], 0, (MapKept.heap_alloc w _).1, stamped_empty 0, by simp, by simp, by simp, rfl⟩

section
variable {P : Program} {w : World} {b : Nat} {f : Int → Option Value} {n : Nat} {mt kt et : TypeId}

theorem MapN.find {es : Array MapEntry} (hks : ∀ e ∈ es.toList, ∃ a, e.key = .int .i64 a) (k : Int) :
    (Instr.findNow (.int .i64) (.int .i64 k) es.toList 0 = some none ∧ ∀ x ∈ es.toList, x.key ≠ .int .i64 k) ∨ ∃ j e, Instr.findNow (.int .i64) (.int .i64 k) es.toList 0 = some (some (0 + j, e.val)) ∧ es.toList[j]? = some e ∧ e.key = .int .i64 k :=
  findNow_spec (d := .int .i64) (k := .int .i64 k) rfl es.toList 0 (fun x hx => by obtain ⟨a, ha⟩ := hks x hx; rw [ha]; rfl)

/-- m[k] -/
theorem MapN.lookup (h : MapN w b f n) (hm : P.underlying mt = some (.map kt et)) (hd : P.underlying kt = some (.int .i64)) {z : Value} (hz : ∀ w, (zeroValue et).run P w = .ok z w) (k : Int) :
    (Instr.lookup mt (.map (some b)) (.int .i64 k) false).run P w = .ok ((f k).getD z) w := by
  obtain ⟨es, clock, hb, hs, hks, h1, h2, hsz⟩ := h
  rcases MapN.find hks k with ⟨hf, hn⟩ | ⟨j, e, hf, hj, he⟩
  · have : f k = none := by
      cases hfk : f k with
      | none => rfl
      | some v => obtain ⟨e, he, hek⟩ := h2 k v hfk; exact absurd hek (hn e he)
    simp [Instr.lookup, run_underlying hm, MapKept.run_getObj_map hb, run_checkKey hd (k := .int .i64 k) rfl, run_findKey hd hf, hz, Result.andThen, this]
  · have hmem : e ∈ es.toList := List.mem_of_getElem? hj
    have : f k = some e.val := h1 e hmem k he
    simp [Instr.lookup, run_underlying hm, MapKept.run_getObj_map hb, run_checkKey hd (k := .int .i64 k) rfl, run_findKey hd hf, Result.andThen, this]

/-- v, ok := m[k] -/
theorem MapN.lookup_ok (h : MapN w b f n) (hm : P.underlying mt = some (.map kt et)) (hd : P.underlying kt = some (.int .i64)) {z : Value} (hz : ∀ w, (zeroValue et).run P w = .ok z w) (k : Int) :
    (Instr.lookup mt (.map (some b)) (.int .i64 k) true).run P w = .ok (.tuple #[(f k).getD z, .bool (f k).isSome]) w := by
  obtain ⟨es, clock, hb, hs, hks, h1, h2, hsz⟩ := h
  rcases MapN.find hks k with ⟨hf, hn⟩ | ⟨j, e, hf, hj, he⟩
  · have : f k = none := by
      cases hfk : f k with
      | none => rfl
      | some v => obtain ⟨e, he, hek⟩ := h2 k v hfk; exact absurd hek (hn e he)
    simp [Instr.lookup, run_underlying hm, MapKept.run_getObj_map hb, run_checkKey hd (k := .int .i64 k) rfl, run_findKey hd hf, hz, Result.andThen, this]
  · have hmem : e ∈ es.toList := List.mem_of_getElem? hj
    have : f k = some e.val := h1 e hmem k he
    simp [Instr.lookup, run_underlying hm, MapKept.run_getObj_map hb, run_checkKey hd (k := .int .i64 k) rfl, run_findKey hd hf, Result.andThen, this]

/-- What is stored at k is now v. -/
def upd (f : Int → Option Value) (k : Int) (v : Value) : Int → Option Value := fun q => if q = k then some v else f q

/-- m[k] = v -/
theorem MapN.update (h : MapN w b f n) (hm : P.underlying mt = some (.map kt et)) (hd : P.underlying kt = some (.int .i64)) (k : Int) (v : Value) :
    ∃ w', (Instr.mapUpdate mt (.map (some b)) (.int .i64 k) v).run P w = .ok () w' ∧ MapN w' b (upd f k v) (if (f k).isSome then n else n + 1) ∧ w.grownBy w' (some b) ∧ w'.heap.size = w.heap.size ∧ w'.drawn = w.drawn := by
  obtain ⟨es, clock, hb, hs, hks, h1, h2, hsz⟩ := h
  have hlt : b < w.heap.size := (Array.getElem?_eq_some_iff.1 hb).1
  rcases MapN.find hks k with ⟨hf, hn⟩ | ⟨j, e, hf, hj, he⟩
  · refine ⟨{ w with heap := w.heap.setIfInBounds b (.map (es.push { key := .int .i64 k, val := v, born := clock }) (clock + 1)) }, by simp [Instr.mapUpdate, run_underlying hm, MapKept.run_getObj_map hb, run_checkKey hd (k := .int .i64 k) rfl, run_findKey hd hf, MapKept.run_setObj_map _ hb, Result.andThen], ⟨_, _, (heap_set hb).1, stamped_push hs hn, ?_, ?_, ?_, ?_⟩, ⟨rfl, rfl, rfl, by simp, fun i hi hne => ?_⟩, by simp, rfl⟩
    · intro x hx
      simp only [Array.toList_push, List.mem_append, List.mem_singleton] at hx
      rcases hx with hx | rfl
      · exact hks x hx
      · exact ⟨k, rfl⟩
    · intro x hx a ha
      simp only [Array.toList_push, List.mem_append, List.mem_singleton] at hx
      rcases hx with hx | rfl
      · have : a ≠ k := fun hak => hn x hx (by rw [ha, hak])
        simp only [upd, if_neg this]; exact h1 x hx a ha
      · simp only [Value.int.injEq, true_and] at ha
        simp only [upd, if_pos ha.symm]
    · intro a u ha
      by_cases hak : a = k
      · exact ⟨_, by simp; exact .inr rfl, by rw [hak]⟩
      · simp only [upd, if_neg hak] at ha
        obtain ⟨x, hx, hxa⟩ := h2 a u ha
        exact ⟨x, by simp [Array.toList_push]; exact .inl (by simpa using hx), hxa⟩
    · have hfk : f k = none := by
        cases hfk : f k with
        | none => rfl
        | some v => obtain ⟨e, he, hek⟩ := h2 k v hfk; exact absurd hek (hn e he)
      simp [hfk, hsz]
    · exact (heap_set hb).2 i (fun e => hne (by rw [e]))
  · have hj' : es[j]? = some e := by simpa using hj
    have hkey : ∀ e', es[j]? = some e' → ({ e' with key := .int .i64 k, val := v } : MapEntry).key = e'.key := fun e' he' => by rw [hj'] at he'; cases he'; exact he.symm
    have hmem : ∀ x, x ∈ (es.modify j fun e => { e with key := .int .i64 k, val := v }).toList ↔ (x = { e with key := .int .i64 k, val := v } ∨ (x ∈ es.toList ∧ x.key ≠ .int .i64 k)) := by
      intro x
      have hnd := hs.2.2
      constructor
      · intro hx
        obtain ⟨i, hi⟩ := List.mem_iff_getElem?.1 hx
        rw [Array.getElem?_toList, Array.getElem?_modify] at hi
        by_cases hij : j = i
        · subst hij
          rw [if_pos rfl, hj'] at hi
          simp at hi
          exact .inl hi.symm
        · rw [if_neg hij] at hi
          refine .inr ⟨List.mem_iff_getElem?.2 ⟨i, by simpa using hi⟩, fun hxk => hij ?_⟩
          have a1 : (es.toList.map (·.key))[j]? = some (.int .i64 k) := by simp [hj', he]
          have a2 : (es.toList.map (·.key))[i]? = some (.int .i64 k) := by simp [hi, hxk]
          have hjl : j < (es.toList.map (·.key)).length := (List.getElem?_eq_some_iff.1 a1).1
          exact (List.getElem?_inj hjl hnd).1 (a1.trans a2.symm)
      · rintro (rfl | ⟨hx, hxk⟩)
        · refine List.mem_iff_getElem?.2 ⟨j, ?_⟩
          rw [Array.getElem?_toList, Array.getElem?_modify, if_pos rfl, hj']; rfl
        · obtain ⟨i, hi⟩ := List.mem_iff_getElem?.1 hx
          have hij : j ≠ i := fun h => by subst h; rw [hj] at hi; cases hi; exact hxk he
          refine List.mem_iff_getElem?.2 ⟨i, ?_⟩
          rw [Array.getElem?_toList, Array.getElem?_modify, if_neg hij]; simpa using hi
    refine ⟨{ w with heap := w.heap.setIfInBounds b (.map (es.modify j fun e => { e with key := .int .i64 k, val := v }) clock) }, by simp [Instr.mapUpdate, run_underlying hm, MapKept.run_getObj_map hb, run_checkKey hd (k := .int .i64 k) rfl, run_findKey hd hf, hj', he, run_keyThatStays (d := .int .i64) (k := .int .i64 k) rfl, MapKept.run_setObj_map _ hb, Result.andThen], ⟨_, _, (heap_set hb).1, stamped_modify hs _ _ (fun _ _ => rfl) (fun e' _ he' => hkey e' he'), ?_, ?_, ?_, ?_⟩, ⟨rfl, rfl, rfl, by simp, fun i hi hne => ?_⟩, by simp, rfl⟩
    · intro x hx
      rcases (hmem x).1 hx with rfl | ⟨hx, _⟩
      · exact ⟨k, rfl⟩
      · exact hks x hx
    · intro x hx a ha
      rcases (hmem x).1 hx with rfl | ⟨hx, hxk⟩
      · simp only [Value.int.injEq, true_and] at ha
        simp only [upd, if_pos ha.symm]
      · have : a ≠ k := fun hak => hxk (by rw [ha, hak])
        simp only [upd, if_neg this]; exact h1 x hx a ha
    · intro a u ha
      by_cases hak : a = k
      · exact ⟨_, (hmem _).2 (.inl rfl), by rw [hak]⟩
      · simp only [upd, if_neg hak] at ha
        obtain ⟨x, hx, hxa⟩ := h2 a u ha
        exact ⟨x, (hmem _).2 (.inr ⟨hx, by rw [hxa]; intro e; simp at e; exact hak e⟩), hxa⟩
    · have hfk : f k = some e.val := h1 e (List.mem_of_getElem? hj) k he
      simp [hfk, hsz]
    · exact (heap_set hb).2 i (fun e => hne (by rw [e]))

theorem MapN.len (h : MapN w b f n) : ∃ es clock, w.heap[b]? = some (.map es clock) ∧ es.size = n := by
  obtain ⟨es, clock, hb, _, _, _, _, hs⟩ := h
  exact ⟨es, clock, hb, hs⟩
end
end Go.Proofs.Ytobcnochlkdpaaa
