/- A logic of abstract values: owned rows lent to a function that only reads them, and hands back numbers. -/
import Derived.Test.YtobcnochlkdpaaaSy
namespace Go.Proofs.Ytobcnochlkdpaaa
set_option linter.unusedSimpArgs false
set_option linter.unusedVariables false

/-- All that lies in memory. -/
def heapM (w : World) : Mem := fun b => w.heap[b]?
theorem Good.le_heap {X : Fx} {M : Mem} {σ : List Ent} {w : World} (h : Good X M σ w) : M.le (heapM w) := fun b o ho => h.mem b o ho
theorem Good.lent {X : Fx} {M : Mem} {σ : List Ent} {w : World} {v : Value} {e : TypeId} {sz : Nat} {l : List (List AV)} (h : Good X M σ w) (hm : Ent.row v e sz l ∈ σ) : VRel (heapM w) (.dl sz l) v := by
  obtain ⟨xs, hown, hrel, hs⟩ := h.ent _ hm
  rcases hown.2 with ⟨rfl, h0⟩ | ⟨g, cap, cur, rfl, hb, hgg, hnc, hcm, hcs, htk⟩
  · have : l = [] := List.eq_nil_of_length_eq_zero h0
    subst this
    simp only [VRel]
    exact ⟨none, 0, rfl, by simp, by simp [maxLen], by simp, by simp⟩
  · simp only [VRel]
    refine ⟨_, cap, rfl, hnc, hcm, hs, .inr ⟨g, 0, rfl, RRel.of_cells (VRels.mono h.le_heap _ _ hrel) (fun j v hv => ?_)⟩⟩
    unfold Mem.cell heapM
    rw [hgg]
    simp only
    rw [← htk, List.getElem?_take] at hv
    split at hv
    · simpa using hv
    · cases hv
/-- Arguments, their owned rows read as immutable ones. -/
inductive Lend (σ : List Ent) : List AV → List AV → Prop
  | refl {a : List AV} : Lend σ a a
  | step {a b c : List AV} {v : Value} {e : TypeId} {sz : Nat} {l : List (List AV)} (hm : Ent.row v e sz l ∈ σ) (hc : Cv v (.dl sz l) a b) (h : Lend σ b c) : Lend σ a c
theorem Lend.rel {X : Fx} {M : Mem} {σ : List Ent} {w : World} (hg : Good X M σ w) {a b : List AV} (h : Lend σ a b) : ∀ {vs : List Value}, VRels (heapM w) a vs → VRels (heapM w) b vs := by
  induction h with
  | refl => exact fun h => h
  | step hm hc _ ih => exact fun h => ih (hc.rel (hg.lent hm) h)
/-- What stands for the same whatever memory. -/
def AV.pure : AV → Bool
  | .int _ _ => true
  | .bool _ => true
  | .tup [.int _ _, .int _ _] => true
  | .tup [.bool _, .int _ _] => true
  | _ => false
theorem VRel.pure {M M' : Mem} : ∀ {x : AV} {v : Value}, x.pure = true → VRel M x v → VRel M' x v
  | .int _ _, v, _, h => by simpa [VRel] using h
  | .bool _, v, _, h => by simpa [VRel] using h
  | .tup [.int _ _, .int _ _], v, _, h => by simpa [VRel, VRels] using h
  | .tup [.bool _, .int _ _], v, _, h => by simpa [VRel, VRels] using h
theorem scall_lend {P : Program} {f : FuncId} {args args' : List AV} {σ : List Ent} {r : AV} (hl : Lend σ args args') (hp : r.pure = true) (h : SCall P f args' [] (Is r [])) : SCall P f args σ (Is r σ) := by
  refine ⟨fun X M w vs hg ha => ?_⟩
  have h0 : Good { w0 := X.w0, fr := fun _ => none } (heapM w) [] w :=
    ⟨hg.os, hg.tape, hg.output, fun _ _ h => h, fun _ _ h => (by cases h), fun _ _ _ => rfl, fun _ h => (by cases h), fun _ h => (by cases h), List.nodup_nil⟩
  refine (h.run _ _ w vs h0 (hl.rel hg (ha.mono hg.le_heap _ _))).mono ?_
  rintro e w' ⟨M', σ', r', v, hm, hg', hv, he, hR⟩
  cases hR
  have kept : ∀ b, b < w.heap.size → w'.heap[b]? = w.heap[b]? := fun b hb => by
    have ho : w.heap[b]? = some w.heap[b] := Array.getElem?_eq_getElem hb
    rw [ho]
    exact hg'.mem b _ (hm b _ ho)
  have lt : ∀ b (o' : Obj), w.heap[b]? = some o' → b < w.heap.size := fun b o' ho => (Array.getElem?_eq_some_iff.1 ho).1
  refine ⟨M, σ, r, v, Mem.le_refl M, ⟨hg'.os, hg'.tape, hg'.output, fun b o ho => ?_, fun b o ho => ?_, hg.dis, fun e he => ?_, hg.own, hg.nod⟩, hv.pure hp, he, .mk⟩
  · have := hg.mem b o ho
    rw [kept b (lt b o this)]; exact this
  · have := hg.frm b o ho
    rw [kept b (lt b o this)]; exact this
  · exact (hg.ent e he).same (fun b hb => kept b (Ent.block_lt (hg.ent e he) hb))
/-- Several roads through x meet again. -/
theorem ex_join {P : Program} {ro : Option Nat} {x y : Code} {Q : Exit → St → Prop} {s : St} {α : Type} (f : α → St) (h1 : EX P ro x (thenA (fun s => ∃ a, s.le (f a)) Q) s) (h2 : ∀ a, EX P ro y Q (f a)) : EX P ro (.seq x y) Q s :=
  ex_seq (ex_mono h1 fun e s h => by
    cases e with
    | normal => obtain ⟨a, ha⟩ := h; exact ex_weaken ha (h2 a)
    | exit id => exact h
    | goto l => exact h
    | ret => exact h
    | panic ch => exact h
    | outgrown => exact h)
end Go.Proofs.Ytobcnochlkdpaaa
