/- Parts of the proof that belong together: St So Sp Sq Sr Sv Sw Sx Sy Sz Ss Sca Scc Scd Sti Sce Sal Saf. -/
import Derived.Test.YtkhoengjdfmfaaaGreatGF03
import Derived.Test.YtkhoengjdfmfaaaGreatRows
import Derived.ProofKit
import Derived.OpenShut
import Derived.Deep.Slices
import Derived.ChangeCalls
import Derived.Deep.DeepAppendRoom
import Derived.ChangeKeysEq
import Derived.Maps.RangeRun
import Derived.Laws.CopyRow
import Derived.Lib.Overlaps
import Derived.Lib.AppendZerosOnto
set_option maxRecDepth 10000
set_option linter.unusedSimpArgs false
set_option linter.unusedVariables false
namespace Go.Proofs.YtkhoengjdfmfaaaGreat
open Go.ChangeShapes Go.WideShapes Go.ChangeAt Go.RowKit Go.Deep
def hp (w : World) : Mem := fun b => w.heap[b]?
def fx0 (w : World) : Fx := { w0 := w, fr := fun _ => none }
theorem Good.start (w : World) : Good (fx0 w) (hp w) [] w :=
 ⟨rfl, rfl, rfl, fun _ _ h => h, fun _ _ h => (by cases h), fun _ _ _ => rfl, fun _ h => (by cases h), fun _ h => (by cases h), List.nodup_nil⟩
theorem Good.below {w w' : World} {M' : Mem} {σ : List Ent} (h : Good (fx0 w) M' σ w') (hm : (hp w).le M') : Below w.heap.size w w' := by
 have hb : ∀ k, k < w.heap.size → w'.heap[k]? = w.heap[k]? := fun k hk => by
  have e : w.heap[k]? = some w.heap[k] := Array.getElem?_eq_getElem hk
  rw [e]
  exact h.mem k _ (hm k _ e)
 refine ⟨h.os, h.tape, h.output, ?_, hb⟩
 by_cases hlt : w'.heap.size < w.heap.size
 ·have e := hb _ hlt
  rw [Array.getElem?_eq_getElem hlt] at e
  have := (Array.getElem?_eq_some_iff.1 e).1
  omega
 ·omega
inductive Sh where
 | int (k : IntKind)
 | bool
 | str
 | agg (l : List Sh)
 | slice (s : Sh)
mutual
def Sh.n : Sh → Nat
 | .agg l => Sh.ns l
 | _ => 1
def Sh.ns : List Sh → Nat
 | [] => 0
 | s :: l => s.n + Sh.ns l
end
def elemsF (P : Program) (e : TypeId) (m : Nat) : List Field := (List.range m).map fun i => { name := "", type := e, offset := i * P.cellsOf e, embedded := false, tag := "", pkgPath := "", byteOffset := 0 }
mutual
def Sh.ok (P : Program) : Sh → TypeId → Bool
 | .int k, t => match P.underlying t with | some (.int k') => k' == k | _ => false
 | .bool, t => match P.underlying t with | some .bool => true | _ => false
 | .str, t => match P.underlying t with | some .string => true | _ => false
 | .agg l, t => match P.underlying t with | some (.struct fs) => Sh.oks P l fs.toList 0 && P.cellsOf t == Sh.ns l | some (.array m e) => Sh.oks P l (elemsF P e m) 0 && P.cellsOf t == Sh.ns l | _ => false
 | .slice s, t => match P.underlying t with | some (.slice e) => Sh.ok P s e && P.cellsOf e == s.n && decide (0 < s.n) | _ => false
def Sh.oks (P : Program) : List Sh → List Field → Nat → Bool
 | [], [], _ => true
 | s :: l, f :: fs, o => Sh.ok P s f.type && f.offset == o && P.cellsOf f.type == s.n && Sh.oks P l fs (o + s.n)
 | _, _, _ => false
end
mutual
/-- What cells of such a type may be. -/
def Fits : Sh → List AV → Prop
 | .int k, l => ∃ n, l = [.int k n] ∧ (Lit.int k n).wf = true
 | .bool, l => ∃ b, l = [.bool b]
 | .str, l => ∃ s, l = [.str s] ∧ s.size ≤ maxLen
 | .agg ss, l => Fitss ss l
 | .slice s, l => ∃ xs, l = [.dl s.n xs] ∧ xs.length ≤ maxLen ∧ ∀ x ∈ xs, Fits s x
def Fitss : List Sh → List AV → Prop
 | [], l => l = []
 | s :: ss, l => ∃ a b, l = a ++ b ∧ Fits s a ∧ Fitss ss b
end
theorem RRel.of_get {M : Mem} {b sz : Nat} : ∀ {l : List (List AV)} {i : Nat}, (∀ x ∈ l, x.length = sz) → (∀ k x, l[k]? = some x → CRel M b (i + k * sz) x) → RRel M b i l
 | [], _, _, _ => by simp [RRel]
 | y :: l, i, hs, h => by
  simp only [RRel]
  refine ⟨by simpa using h 0 y rfl, RRel.of_get (sz := sz) (fun x hx => hs x (by simp [hx])) (fun k x hk => ?_)⟩
  have := h (k + 1) x (by simpa using hk)
  rw [hs y (by simp), show i + sz + k * sz = i + (k + 1) * sz by rw [Nat.add_mul]; omega]
  exact this
section
variable {H : Type} {enc : TypeId × Value → H} {P : Program} {w : World} {spare : Nat → Bool} {held : Bool}
theorem cell_hp {b i : Nat} {v : Value} (h : w.cell? ⟨b, i, none⟩ = some v) : (hp w).cell b i = some v := by
 unfold World.cell? at h
 unfold Mem.cell hp
 cases hb : w.heap[b]? with
 | none => rw [show (⟨b, i, none⟩ : Addr).block = b from rfl, hb] at h; cases h
 | some o => rw [show (⟨b, i, none⟩ : Addr).block = b from rfl, hb] at h; cases o <;> simp_all
mutual
theorem trod_fits : ∀ (s : Sh) (t : TypeId) (fuel : Nat) (cs : List Value) (x : DataW H × List MemPlace), Sh.ok P s t = true → DataW.trod enc P w 0 spare held fuel t cs = some x → ∃ l, VRels (hp w) l cs ∧ Fits s l ∧ l.length = s.n
 | .int k, t, fuel, cs, x, hok, h => by
  unfold Sh.ok at hok
  split at hok
  ·rename_i k' ht
   have : k' = k := by simpa using hok
   subst this
   obtain ⟨n, rfl, _, hw⟩ := DataW.trod_int ht h
   exact ⟨[.int k' n], by simp [VRels, VRel], by simp only [Fits]; exact ⟨n, rfl, hw⟩, by simp [Sh.n]⟩
  ·cases hok
 | .bool, t, fuel, cs, x, hok, h => by
  unfold Sh.ok at hok
  split at hok
  ·rename_i ht
   obtain ⟨b, rfl, _⟩ := DataW.trod_bool ht h
   exact ⟨[.bool b], by simp [VRels, VRel], by simp only [Fits]; exact ⟨b, rfl⟩, by simp [Sh.n]⟩
  ·cases hok
 | .str, t, fuel, cs, x, hok, h => by
  unfold Sh.ok at hok
  split at hok
  ·rename_i ht
   obtain ⟨b, rfl, _, hs⟩ := DataW.trod_string ht h
   exact ⟨[.str b], by simp [VRels, VRel], by simp only [Fits]; exact ⟨b, rfl, hs⟩, by simp [Sh.n]⟩
  ·cases hok
 | .slice s, t, fuel, cs, x, hok, h => by
  unfold Sh.ok at hok
  split at hok
  ·rename_i e ht
   simp only [Bool.and_eq_true, beq_iff_eq, decide_eq_true_eq] at hok
   obtain ⟨⟨hok, hn⟩, hpos⟩ := hok
   rcases open_slice ht h with ⟨rfl, rfl⟩ | ⟨a, len, cap, m, n, D, Pl, rfl, _, hlc, hcm, hm, _, hel⟩
   ·refine ⟨[.dl s.n []], ?_, by simp only [Fits]; exact ⟨[], rfl, Nat.zero_le _, by simp⟩, by simp [Sh.n]⟩
    simp only [VRels, VRel]
    exact ⟨_, _, rfl, ⟨none, 0, rfl, Nat.le_refl _, Nat.zero_le _, by simp, .inl (by simp)⟩, rfl⟩
   ·have hlm : len ≤ m := by rw [hm]; split <;> omega
    have hex : ∀ i, i < len → ∃ l, (∃ cs', w.cells? 0 (a.add (i * s.n)) s.n = some cs' ∧ VRels (hp w) l cs') ∧ Fits s l ∧ l.length = s.n := by
     intro i hi
     obtain ⟨cs', h1, h2⟩ := hel i (by omega)
     obtain ⟨l, h3, h4, h5⟩ := trod_fits s e n cs' _ hok h2
     rw [hn] at h1
     exact ⟨l, ⟨cs', h1, h3⟩, h4, h5⟩
    obtain ⟨V, hV⟩ := choose_lt hex
    have hspot : 0 < len → a.spot = none := fun h0 => by
     obtain ⟨⟨cs', h1, _⟩, _⟩ := hV 0 h0
     obtain ⟨_, hl', hc⟩ := World.cells?_some h1
     have := hc 0 hpos
     simp only [Nat.zero_mul, Addr.add, if_true] at this
     unfold World.cell? at this
     have hx : cs'[0]? = some (cs'[0]'(by omega)) := List.getElem?_eq_getElem (by omega)
     rw [hx] at this
     split at this
     ·split at this
      ·cases this
      ·rename_i hs; simpa using hs
     ·cases this
    refine ⟨[.dl s.n ((List.range len).map V)], ?_, ?_, by simp [Sh.n]⟩
    ·simp only [VRels, VRel]
     refine ⟨_, _, rfl, ⟨some a, cap, by simp, by simpa using hlc, hcm, ?_, ?_⟩, rfl⟩
     ·intro x hx
      obtain ⟨i, hi, rfl⟩ := List.mem_map.1 hx
      exact (hV i (List.mem_range.1 hi)).2.2
     ·by_cases h0 : len = 0
      ·subst h0; exact .inl rfl
      ·right
       have hs := hspot (by omega)
       refine ⟨a.block, a.off, by cases a; simp at hs; subst hs; rfl, RRel.of_get (sz := s.n) ?_ ?_⟩
       ·intro x hx
        obtain ⟨i, hi, rfl⟩ := List.mem_map.1 hx
        exact (hV i (List.mem_range.1 hi)).2.2
       ·intro k x hk
        rw [List.getElem?_map] at hk
        by_cases hkl : k < len
        ·rw [List.getElem?_range hkl] at hk
         simp only [Option.map_some, Option.some.injEq] at hk
         subst hk
         obtain ⟨⟨cs', h1, h2⟩, _, h3⟩ := hV k hkl
         obtain ⟨_, hl', hc⟩ := World.cells?_some h1
         refine CRel.of_cells h2 (fun j v hj => cell_hp ?_)
         have hjn : j < s.n := by
          have := (List.getElem?_eq_some_iff.1 hj).1; omega
         have := hc j hjn
         rw [hj] at this
         have ea : (a.add (k * s.n)).add j = ⟨a.block, a.off + k * s.n + j, none⟩ := by
          rw [add_add]
          unfold Addr.add
          cases a; simp only at hs; subst hs
          split <;> simp_all <;> omega
         rw [← ea]; exact this
        ·rw [List.getElem?_eq_none (by simpa using hkl)] at hk; cases hk
    ·simp only [Fits]
     refine ⟨_, rfl, by simp; omega, fun x hx => ?_⟩
     obtain ⟨i, hi, rfl⟩ := List.mem_map.1 hx
     exact (hV i (List.mem_range.1 hi)).2.1
  ·cases hok
 | .agg ss, t, fuel, cs, x, hok, h => by
  unfold Sh.ok at hok
  split at hok
  ·rename_i fs ht
   simp only [Bool.and_eq_true, beq_iff_eq] at hok
   obtain ⟨hok, hn⟩ := hok
   obtain ⟨xs, n, _, _, hlen, hxl, hf⟩ := DataW.trod_struct ht h
   obtain ⟨l, h1, h2, h3⟩ := trods_fits ss fs.toList n cs 0 hok (fun f hfm => by
    obtain ⟨i, hi⟩ := List.getElem?_of_mem hfm
    have hi' : fs[i]? = some f := by simpa using hi
    have := hf i f hi'
    have hlt : i < xs.length := by rw [hxl]; exact (Array.getElem?_eq_some_iff.1 hi').1
    rw [List.getElem?_eq_getElem hlt] at this
    exact ⟨_, this⟩) (by omega)
   refine ⟨l, ?_, by simpa only [Fits] using h2, by simpa [Sh.n] using h3⟩
   rw [hn] at hlen
   rw [List.drop_zero, List.take_of_length_le (by omega)] at h1
   exact h1
  ·rename_i m e ht
   simp only [Bool.and_eq_true, beq_iff_eq] at hok
   obtain ⟨hok, hn⟩ := hok
   obtain ⟨xs, n, _, _, hlen, hxl, hf⟩ := DataW.trod_array ht h
   obtain ⟨l, h1, h2, h3⟩ := trods_fits ss (elemsF P e m) n cs 0 hok (fun f hfm => by
    obtain ⟨i, hi, rfl⟩ := List.mem_map.1 hfm
    have hi := List.mem_range.1 hi
    have := hf i hi
    rw [List.getElem?_eq_getElem (by omega)] at this
    exact ⟨_, this⟩) (by omega)
   refine ⟨l, ?_, by simpa only [Fits] using h2, by simpa [Sh.n] using h3⟩
   rw [hn] at hlen
   rw [List.drop_zero, List.take_of_length_le (by omega)] at h1
   exact h1
  ·cases hok
theorem trods_fits : ∀ (ss : List Sh) (fs : List Field) (n : Nat) (cs : List Value) (o : Nat), Sh.oks P ss fs o = true → (∀ f ∈ fs, ∃ x, DataW.trod enc P w 0 spare held n f.type ((cs.drop f.offset).take (P.cellsOf f.type)) = some x) → o + Sh.ns ss ≤ cs.length →
  ∃ l, VRels (hp w) l ((cs.drop o).take (Sh.ns ss)) ∧ Fitss ss l ∧ l.length = Sh.ns ss
 | [], fs, n, cs, o, hok, hf, hl => ⟨[], by simp [VRels, Sh.ns], by simp [Fitss], by simp [Sh.ns]⟩
 | s :: ss, [], n, cs, o, hok, hf, hl => by simp [Sh.oks] at hok
 | s :: ss, f :: fs, n, cs, o, hok, hf, hl => by
  simp only [Sh.oks, Bool.and_eq_true, beq_iff_eq] at hok
  obtain ⟨⟨⟨h1, h2⟩, h3⟩, h4⟩ := hok
  simp only [Sh.ns] at hl
  obtain ⟨x, hx⟩ := hf f (by simp)
  obtain ⟨a, a1, a2, a3⟩ := trod_fits s f.type n _ x h1 hx
  obtain ⟨b, b1, b2, b3⟩ := trods_fits ss fs n cs (o + s.n) h4 (fun g hg => hf g (by simp [hg])) (by omega)
  refine ⟨a ++ b, ?_, by simp only [Fitss]; exact ⟨a, b, rfl, a2, b2⟩, by simp [Sh.ns, a3, b3]⟩
  rw [h2, h3] at a1
  have := a1.append b1
  simp only [Sh.ns]
  rw [List.take_add, List.drop_drop]
  exact this
end
def argAV : Sh → List AV → AV
 | .agg _, l => .agg l
 | _, l => l.headD (.bool true)
theorem arg_fits {s : Sh} {t : TypeId} {v : Value} {d : DataW H} {ps : List MemPlace} {r : Reach} {b0 : Nat} (hok : Sh.ok P s t = true) (hval : Value.okWide P w r b0 t v) (hd : DataW.Trod enc P w 0 spare held t v d ps) :
  ∃ l, Fits s l ∧ VRel (hp w) (argAV s l) v := by
 obtain ⟨fuel, hf⟩ := hd
 obtain ⟨l, h1, h2, h3⟩ := trod_fits s t fuel _ _ hok hf
 refine ⟨l, h2, ?_⟩
 cases s with
 | int k =>
  unfold Sh.ok at hok
  split at hok
  ·rename_i k' ht
   obtain ⟨n, rfl⟩ := okWide_int ht hval
   simp only [Fits] at h2
   obtain ⟨m, rfl, _⟩ := h2
   simpa [VRels, Value.cells, argAV] using h1
  ·cases hok
 | bool =>
  unfold Sh.ok at hok
  split at hok
  ·rename_i ht
   obtain ⟨n, rfl⟩ := okWide_bool ht hval
   simp only [Fits] at h2
   obtain ⟨m, rfl⟩ := h2
   simpa [VRels, Value.cells, argAV] using h1
  ·cases hok
 | str =>
  unfold Sh.ok at hok
  split at hok
  ·rename_i ht
   obtain ⟨n, rfl⟩ := okWide_string ht hval
   simp only [Fits] at h2
   obtain ⟨m, rfl, _⟩ := h2
   simpa [VRels, Value.cells, argAV] using h1
  ·cases hok
 | slice s =>
  unfold Sh.ok at hok
  split at hok
  ·rename_i e ht
   obtain ⟨a, n, c, rfl⟩ := okWide_slice ht hval
   simp only [Fits] at h2
   obtain ⟨m, rfl, _⟩ := h2
   simp only [VRels, Value.cells] at h1
   obtain ⟨v, r, e, h1, _⟩ := h1
   simp at e
   obtain ⟨rfl, rfl⟩ := e
   exact h1
  ·cases hok
 | agg ss =>
  unfold Sh.ok at hok
  split at hok
  ·rename_i fs ht
   obtain ⟨cs, rfl, _⟩ := okWide_struct ht hval
   simp only [argAV, VRel]
   exact ⟨cs, rfl, by simpa [Value.cells] using h1⟩
  ·rename_i m e ht
   simp only [Value.okWide, ht] at hval
   obtain ⟨cs, rfl, _⟩ := hval
   simp only [argAV, VRel]
   exact ⟨cs, rfl, by simpa [Value.cells] using h1⟩
  ·cases hok
theorem args_fit : ∀ {ss : List Sh} {ts : List TypeId} {vs : List Value} {ds : List (DataW H)} {ps : List MemPlace} {r : Reach} {b0 : Nat}, ss.length = ts.length → (∀ (i : Nat) s t, ss[i]? = some s → ts[i]? = some t → Sh.ok P s t = true) → (∀ (j : Nat) t v, ts[j]? = some t → vs[j]? = some v → Value.okWide P w r b0 t v) →
  DataW.TrodAll enc P w 0 spare held ts vs ds ps → ∃ ls : List (List AV), ls.length = ss.length ∧ (∀ (i : Nat) s l, ss[i]? = some s → ls[i]? = some l → Fits s l) ∧ VRels (hp w) (List.zipWith argAV ss ls) vs
 | [], [], vs, ds, ps, r, b0, _, _, _, h => by
  obtain ⟨rfl, rfl, rfl⟩ := trodAll_nil h
  exact ⟨[], rfl, by simp, by simp [VRels]⟩
 | s :: ss, [], _, _, _, _, _, hl, _, _, _ => by simp at hl
 | [], t :: ts, _, _, _, _, _, hl, _, _, _ => by simp at hl
 | s :: ss, t :: ts, vs, ds, ps, r, b0, hl, hok, hval, h => by
  obtain ⟨v, vs', d, ds', p, q, rfl, rfl, rfl, h1, h2⟩ := trodAll_cons h
  obtain ⟨l, f1, f2⟩ := arg_fits (hok 0 s t rfl rfl) (hval 0 t v rfl rfl) h1
  obtain ⟨ls, g1, g2, g3⟩ := args_fit (ss := ss) (by simpa using hl) (fun i s t a b => hok (i + 1) s t (by simpa using a) (by simpa using b)) (fun j t v a b => hval (j + 1) t v (by simpa using a) (by simpa using b)) h2
  refine ⟨l :: ls, by simp [g1], ?_, ?_⟩
  ·intro i s' l' ha hb
   cases i with
   | zero => simp at ha hb; subst ha; subst hb; exact f1
   | succ i => exact g2 i s' l' (by simpa using ha) (by simpa using hb)
  ·simp only [List.zipWith_cons_cons, VRels]
   exact ⟨v, vs', rfl, f2, g3⟩
theorem trodAll_stays {W W' : World} (hl : laidOutB P = true) (hb : Below W.heap.size W W') {sp : Nat → Bool} : ∀ {ts : List TypeId} {vs : List Value} {ds : List (DataW H)} {ps : List MemPlace}, (∀ t ∈ ts, P.readableRec t = true ∧ t < P.types.size) → (∀ x ∈ ps, x.block < W.heap.size) → (∀ x ∈ ps, sp x.block = true) →
  DataW.TrodAll enc P W 0 (fun _ => true) true ts vs ds ps → DataW.TrodAll enc P W' 0 sp true ts vs ds ps
 | [], vs, ds, ps, _, _, _, h => by
  obtain ⟨rfl, rfl, rfl⟩ := trodAll_nil h
  exact h
 | t :: ts, vs, ds, ps, ht, hlt, hsp, h => by
  obtain ⟨v, vs', d, ds', p, q, rfl, rfl, rfl, h1, h2⟩ := trodAll_cons h
  exact trodAll_cons_mk (WideElems.Trod_stays hl (ht t (by simp)).1 (ht t (by simp)).2 h1 (fun x hx => hb.same (hlt x (by simp [hx]))) (fun x hx => hsp x (by simp [hx])))
   (trodAll_stays hl hb (fun u hu => ht u (by simp [hu])) (fun x hx => hlt x (by simp [hx])) (fun x hx => hsp x (by simp [hx])) h2)
theorem law_post {f : Func} {s : ChangeSpec} {W W' : World} {args : Array Value} {ds gs : List (DataW H)} {before : List MemPlace} (hl : laidOutB P = true) (hrow : ∀ t ∈ f.params.toList, P.readableRec t = true ∧ t < P.types.size) {tb : TypeId} (hrt : f.resultTypes = #[tb]) (htb : P.underlying tb = some .bool)
  (hvs : s.vars = []) (hfn : ∀ ds : List (DataW H), ds.length = f.params.size → s.fn H ds = { results := [.lit (.bool true)], args := ds })
  (hW : DataW.Whole enc P f.params.toList s.vars false W args.toList ds gs before) (hb : Below W.heap.size W W') : s.post enc P f false true false false W args (.bool true) W' := by
 have hlt : ∀ p ∈ before, p.block < W.heap.size := fun p hp => by simpa using hW.lt p hp
 have hW' := hW
 obtain ⟨p, q, hA, hV, rfl, hfz, hnd⟩ := hW
 rw [hvs] at hV
 obtain ⟨rfl, rfl⟩ := trodVars_none hV
 have hlen : ds.length = f.params.size := by
  have := (trodAll_length hA).2
  simpa using this
 have hs : s.fn H (ds ++ []) = { results := [.lit (.bool true)], args := ds } := by rw [List.append_nil]; exact hfn ds hlen
 have hres : ∀ (b : Nat) (sp : Nat → Bool) (hd : Bool), DataW.TrodAll enc P W' b sp hd f.resultTypes.toList ((Value.bool true).resultList f.resultTypes.size) (s.fn H (ds ++ [])).results [] := fun b sp hd => by
  rw [hs, hrt]
  exact trodAll_cons_mk (shut_bool htb _) trodAll_mk0
 have hargs : ∀ sp : Nat → Bool, (∀ p' ∈ p ++ [], sp p'.block = true) → DataW.TrodAll enc P W' 0 sp true f.params.toList args.toList (s.fn H (ds ++ [])).args p := fun sp hsp => by
  rw [hs]
  exact trodAll_stays hl hb hrow (fun x hx => hlt x (by simp [hx])) (fun x hx => hsp x (by simp [hx])) hA
 have hvars : ∀ sp : Nat → Bool, DataW.TrodVars enc P W' sp s.vars (s.fn H (ds ++ [])).vars [] := fun sp => by
  rw [hs, hvs]; exact rfl
 refine ⟨ds, [], p ++ [], [], p, [], hW', hres _ _ _, hargs _ (fun x hx => by simpa using hlt x hx), hvars _, hb.frame _, fun _ => ?_⟩
 refine ⟨ok_one hrt rfl (okWide_bool_mk htb _), _, _, ([] ++ p) ++ [], ⟨[] ++ p, [], trodAll_append (hargs _ (fun _ _ => rfl)) (hres _ _ _), hvars _, rfl, ?_, ?_⟩, ?_⟩
 ·intro b off hp
  rw [hb.frozen (hlt (.cell b off) (by simpa using hp))]
  exact hfz b off (by simpa using hp)
 ·intro ha; cases ha
 ·intro x hx _
  simpa using hx
def shsB (P : Program) : List Sh → List TypeId → Bool
 | [], [] => true
 | s :: ss, t :: ts => Sh.ok P s t && P.readableRec t && decide (t < P.types.size) && shsB P ss ts
 | _, _ => false
theorem shsB_all {P : Program} : ∀ {ss : List Sh} {ts : List TypeId}, shsB P ss ts = true → ss.length = ts.length ∧ (∀ t ∈ ts, P.readableRec t = true ∧ t < P.types.size) ∧ ∀ (i : Nat) s t, ss[i]? = some s → ts[i]? = some t → Sh.ok P s t = true
 | [], [], _ => ⟨rfl, by simp, by simp⟩
 | [], _ :: _, h => by simp [shsB] at h
 | _ :: _, [], h => by simp [shsB] at h
 | s :: ss, t :: ts, h => by
  simp only [shsB, Bool.and_eq_true, decide_eq_true_eq] at h
  obtain ⟨⟨⟨h1, h2⟩, h3⟩, h4⟩ := h
  obtain ⟨k1, k2, k3⟩ := shsB_all h4
  refine ⟨by simp [k1], fun u hu => ?_, fun i a b ha hb => ?_⟩
  ·rcases List.mem_cons.1 hu with rfl | hu
   ·exact ⟨h2, h3⟩
   ·exact k2 u hu
  ·cases i with
   | zero => simp at ha hb; subst ha; subst hb; exact h1
   | succ i => exact k3 i a b (by simpa using ha) (by simpa using hb)
theorem law_calls {f : Func} {fn : FuncId} {s : ChangeSpec} {ss : List Sh} (hl : laidOutB P = true) (hss : shsB P ss f.params.toList = true) {tb : TypeId} (hrt : f.resultTypes = #[tb]) (htb : P.underlying tb = some .bool)
  (hvs : s.vars = []) (hfn : ∀ ds : List (DataW H), ds.length = f.params.size → s.fn H ds = { results := [.lit (.bool true)], args := ds })
  (hc : ∀ ls : List (List AV), ls.length = ss.length → (∀ (i : Nat) s l, ss[i]? = some s → ls[i]? = some l → Fits s l) → SCall P fn (List.zipWith argAV ss ls) [] (fun r _ => r = .bool true))
  {W : World} {base : Nat} {args : Array Value} {ds gs : List (DataW H)} {before : List MemPlace}
  (hval : ∀ (j : Nat) t v, f.params[j]? = some t → args[j]? = some v → Value.okWide P W .any base t v)
  (hW : DataW.Whole enc P f.params.toList s.vars false W args.toList ds gs before) :
  Calls P fn args W fun e W' => ∃ v, e = .returned v ∧ s.post enc P f false true false false W args v W' := by
 obtain ⟨hsl, hrow, hsh⟩ := shsB_all hss
 have hW' := hW
 obtain ⟨p, q, hA, hV, rfl, hfz, hnd⟩ := hW
 obtain ⟨ls, h1, h2, h3⟩ := args_fit hsl hsh (fun j t v a b => hval j t v (by simpa using a) (by simpa using b)) hA
 refine ((hc ls h1 h2).run (fx0 W) (hp W) W args (Good.start W) h3).mono ?_
 rintro e W' ⟨M', σ', r, v, hm, hg, hv, rfl, rfl⟩
 simp only [VRel] at hv
 subst hv
 exact ⟨_, rfl, law_post hl hrow hrt htb hvs hfn hW' (hg.below hm)⟩
end
theorem scall_view {P : Program} {f : FuncId} {args args' : List AV} {σ : List Ent} {Q : AV → List Ent → Prop} (hc : ∀ M vs, VRels M args vs → VRels M args' vs) (h : SCall P f args' σ Q) : SCall P f args σ Q :=
 ⟨fun X M w vs hg ha => h.run X M w vs hg (hc _ _ ha)⟩
theorem VRel.dl_view {M : Mem} {sz : Nat} {l l' : List (List AV)} {u : Value} (hlen : l'.length = l.length) (hs : ∀ x ∈ l', x.length = sz) (hv : ∀ (k : Nat) x x' b i, l[k]? = some x → l'[k]? = some x' → CRel M b i x → CRel M b i x') (h : VRel M (.dl sz l) u) : VRel M (.dl sz l') u := by
 simp only [VRel] at h ⊢
 obtain ⟨a, cap, rfl, h1, h2, h3, h4⟩ := h
 refine ⟨a, cap, by rw [hlen], by rw [hlen]; exact h1, h2, hs, ?_⟩
 rcases h4 with rfl | ⟨b, off, rfl, hr⟩
 ·left; simpa using hlen
 ·refine .inr ⟨b, off, rfl, RRel.of_get hs fun k x' hx' => ?_⟩
  have hk : k < l.length := by rw [← hlen]; exact (List.getElem?_eq_some_iff.1 hx').1
  exact hv k l[k] x' b _ (List.getElem?_eq_getElem hk) hx' (hr.get h3 (List.getElem?_eq_getElem hk))
theorem CRel.view {M : Mem} {b : Nat} : ∀ {l l' : List AV} {i : Nat}, (∀ vs, VRels M l vs → VRels M l' vs) → CRel M b i l → CRel M b i l' := by
 intro l l' i hv h
 have key : ∀ (l : List AV) (i : Nat), CRel M b i l → ∃ vs : List Value, VRels M l vs ∧ ∀ j v, vs[j]? = some v → M.cell b (i + j) = some v := by
  intro l
  induction l with
  | nil => intro i _; exact ⟨[], by simp [VRels], by simp⟩
  | cons x l ih =>
   intro i h
   simp only [CRel] at h
   obtain ⟨⟨v, h1, h2⟩, h3⟩ := h
   obtain ⟨vs, h4, h5⟩ := ih (i + 1) h3
   refine ⟨v :: vs, by simp only [VRels]; exact ⟨v, vs, rfl, h2, h4⟩, fun j u hu => ?_⟩
   cases j with
   | zero => simp at hu; subst hu; simpa using h1
   | succ j => have := h5 j u (by simpa using hu); rwa [show i + (j + 1) = i + 1 + j by omega]
 obtain ⟨vs, h1, h2⟩ := key l i h
 exact CRel.of_cells (hv vs h1) h2
theorem nils_view {M : Mem} {sz n : Nat} {u : Value} (h : VRel M (.dl 1 (List.replicate n [.slv nilS])) u) : VRel M (.dl 1 (List.replicate n [.dl sz []])) u := by
 refine h.dl_view (by simp) (fun x hx => by rw [(List.mem_replicate.1 hx).2]; rfl) (fun k x x' b i hx hx' hc => ?_)
 have h1 := List.mem_replicate.1 (List.mem_of_getElem? hx)
 have h2 := List.mem_replicate.1 (List.mem_of_getElem? hx')
 rw [h1.2] at hc
 rw [h2.2]
 exact hc.view fun vs hvs => (Cv.here .nil : Cv nilS (.dl sz []) [.slv nilS] [.dl sz []]).rel (nil_rel M sz) hvs
theorem fits_slice {α : Type} {f : α → List AV} {p : α → Prop} {s : Sh} (hs : ∀ x, Fits s x → ∃ a, x = f a ∧ p a) {l : List AV} (h : Fits (.slice s) l) : ∃ xs : List α, l = [.dl s.n (xs.map f)] ∧ ∀ a ∈ xs, p a := by
 simp only [Fits] at h
 obtain ⟨xs, rfl, hlen, h2⟩ := h
 clear hlen
 have : ∃ ys : List α, xs = ys.map f ∧ ∀ a ∈ ys, p a := by
  induction xs with
  | nil => exact ⟨[], rfl, by simp⟩
  | cons x xs ih =>
   obtain ⟨a, rfl, ha⟩ := hs x (h2 x (by simp))
   obtain ⟨ys, rfl, hy⟩ := ih (fun z hz => h2 z (by simp [hz]))
   refine ⟨a :: ys, rfl, ?_⟩
   intro b hb
   rcases List.mem_cons.1 hb with rfl | hb
   ·exact ha
   ·exact hy b hb
 obtain ⟨ys, rfl, hy⟩ := this
 exact ⟨ys, rfl, hy⟩
theorem pT {l : List AV} (h : Fits (.int .i64) l) : ∃ n : Int, l = [.int .i64 n] ∧ (-9223372036854775808 ≤ n ∧ n ≤ 9223372036854775807) := by
 simp only [Fits] at h
 obtain ⟨n, rfl, h⟩ := h
 exact ⟨n, rfl, by simp [Lit.wf, IntKind.min, IntKind.max, IntKind.bits, IntKind.signed] at h; omega⟩
theorem fits_u8 {l : List AV} (h : Fits (.int .u8) l) : ∃ n : Nat, l = [.int .u8 n] ∧ n < 256 := by
 simp only [Fits] at h
 obtain ⟨n, rfl, h⟩ := h
 have : 0 ≤ n ∧ n < 256 := by simp [Lit.wf, IntKind.min, IntKind.max, IntKind.bits, IntKind.signed] at h; omega
 exact ⟨n.toNat, by congr 2; omega, by omega⟩
inductive ShutEnts (v : Value) (x : AV) : List Ent → List Ent → Prop
 | nil : ShutEnts v x [] []
 | same {e : Ent} {σ σ' : List Ent} (h : ShutEnts v x σ σ') : ShutEnts v x (e :: σ) (e :: σ')
 | cells {b : Nat} {l l' : List AV} {t : TypeId} {σ σ' : List Ent} (hc : Cv v x l l') (h : ShutEnts v x σ σ') : ShutEnts v x (.cells b l t :: σ) (.cells b l' t :: σ')
theorem ShutEnts.refl {v : Value} {x : AV} : ∀ σ : List Ent, ShutEnts v x σ σ
 | [] => .nil
 | _ :: σ => .same (ShutEnts.refl σ)
theorem ShutEnts.blocks {v : Value} {x : AV} {σ σ' : List Ent} (h : ShutEnts v x σ σ') : σ'.map Ent.block = σ.map Ent.block := by
 induction h with
 | nil => rfl
 | same _ ih => simp [ih]
 | cells _ _ ih => simp [ih, Ent.block]
theorem ShutEnts.ents {v : Value} {x : AV} {σ σ' : List Ent} {M : Mem} {w : World} (hx : VRel M x v) (h : ShutEnts v x σ σ') : (∀ e ∈ σ, e.at M w) → ∀ e ∈ σ', e.at M w := by
 induction h with
 | nil => exact fun h => h
 | same _ ih =>
  intro ha e he
  rcases List.mem_cons.1 he with rfl | he
  ·exact ha _ (by simp)
  ·exact ih (fun e he => ha e (by simp [he])) e he
 | @cells b l l' t σ σ' hc _ ih =>
  intro ha e he
  rcases List.mem_cons.1 he with rfl | he
  ·obtain ⟨c, h1, h2⟩ := ha (.cells b l t) (by simp)
   exact ⟨c, h1, hc.rel hx h2⟩
  ·exact ih (fun e he => ha e (by simp [he])) e he
theorem filterMap_blocks : ∀ σ : List Ent, σ.filterMap Ent.block = (σ.map Ent.block).filterMap id
 | [] => rfl
 | e :: σ => by
  have ih := filterMap_blocks σ
  cases h : e.block with
  | none => rw [List.filterMap_cons_none h, ih]; simp [h]
  | some b => rw [List.filterMap_cons_some h, ih]; simp [h]
theorem Good.shutE {X : Fx} {M : Mem} {σ σ' : List Ent} {w : World} {v : Value} {x : AV} (hx : VRel M x v) (hg : Good X M σ w) (h : ShutEnts v x σ σ') : Good X M σ' w := by
 have hb := h.blocks
 refine ⟨hg.os, hg.tape, hg.output, hg.mem, hg.frm, hg.dis, h.ents hx hg.ent, fun e he b hb' => ?_, ?_⟩
 ·have hm : some b ∈ σ'.map Ent.block := List.mem_map.2 ⟨e, he, hb'⟩
  rw [hb] at hm
  obtain ⟨e', he', hb2⟩ := List.mem_map.1 hm
  exact hg.own e' he' b hb2
 ·rw [filterMap_blocks, hb, ← filterMap_blocks]; exact hg.nod
theorem ex_shut {P : Program} {ro : Option Nat} {env : Env} {σ σ1 σ' : List Ent} {c : Code} {Q : Exit → St → Prop} {mk : List Nat} {n : Nat} {v : Value} {e : TypeId} {sz : Nat} {l : List (List AV)} {env' : Env} (hr : Rem σ (.row v e sz l) σ1) (hs : ShutEnts v (.dl sz l) σ1 σ') (he : SealEnv env v (.dl sz l) env') (h : EX P ro c Q ⟨env', σ', mk, n⟩) : EX P ro c Q ⟨env, σ, mk, n⟩ :=
 ⟨fun X M a w hs' => by
  obtain ⟨M1, h1, h2, h3⟩ := hs'.good.shut hr
  refine Go.wpIn_mono (h.run X M1 a w ⟨h2.shutE h3 hs, hs'.size, hs'.defs, he.rel h1 h3 hs'.env⟩) ?_
  rintro e a' w' ⟨M', s', hm, hs2, hq⟩
  exact ⟨M', s', Mem.le_trans h1 hm, hs2, hq⟩⟩
theorem exl_shut {P : Program} {ro : Option Nat} {env : Env} {σ σ1 σ' : List Ent} {ops : Array Oper} {rest : List Oper} {Q : Exit → St → Prop} {mk : List Nat} {n : Nat} {v : Value} {e : TypeId} {sz : Nat} {l : List (List AV)} {env' : Env} (hr : Rem σ (.row v e sz l) σ1) (hs : ShutEnts v (.dl sz l) σ1 σ') (he : SealEnv env v (.dl sz l) env') (h : EXL P ro ops rest Q ⟨env', σ', mk, n⟩) : EXL P ro ops rest Q ⟨env, σ, mk, n⟩ :=
 ⟨fun X M a w hs' => by
  obtain ⟨M1, h1, h2, h3⟩ := hs'.good.shut hr
  exact wK (fun _ _ _ ⟨M', s', hm, hs2, hq⟩ => ⟨M', s', Mem.le_trans h1 hm, hs2, hq⟩) _ _ _ (h.run X M1 a w ⟨h2.shutE h3 hs, hs'.size, hs'.defs, he.rel h1 h3 hs'.env⟩)⟩
theorem exl_weaken {P : Program} {ro : Option Nat} {ops : Array Oper} {rest : List Oper} {Q : Exit → St → Prop} {s s' : St} (hl : s.le s') (h : EXL P ro ops rest Q s') : EXL P ro ops rest Q s := ⟨fun X M a w hs => h.run X M a w (hs.weaken hl)⟩
theorem wC {P : Program} {ro : Option Nat} {env : Env} {σ : List Ent} {dst : Option Tmp} {ty : TypeId} {pos : String} {after : Array Edge} {guard : Option (Nat × Bool)} {s t : TypeId} {x : Operand} {k' ks : IntKind} {n : Int} (hs : P.underlying s = some (.int ks)) (ht : P.underlying t = some (.int .i64)) (hx : xP env x = some (.int k' n)) (hn : -9223372036854775808 ≤ n ∧ n ≤ 9223372036854775807) :
  GOp P ro ⟨dst, .convert s t x, ty, pos, after, guard⟩ env σ (Is (.int .i64 n) σ) :=
 xZ _ (by intro c h; cases h) fun X M e w hg ho => by
  have h1 := ho x (by simp [Op.operands]) _ hx
  simp only [VRel] at h1
  refine ⟨.int .i64 n, by simp [VRel], ?_⟩
  have hw : IntKind.i64.wrap n = n := wrap64 hn
  simp [execOp, h1, convert, Sem.run_bind, run_underlying hs, run_underlying ht, Conv.intToInt, hw]
section
variable {P : Program} {ro : Option Nat} {env : Env} {σ σ' : List Ent} {o : Oper} {dst : Option Tmp} {ty : TypeId} {pos : String} {after : Array Edge} {guard : Option (Nat × Bool)}
def subS (sz : Nat) (v : Value) (l h : Nat) : Value := match v with
 | .slice a _ cap => .slice (if cap = l then a else a.map (·.add (l * sz))) (h - l) (cap - l)
 | _ => v
theorem flatten_take_sz {sz : Nat} : ∀ {L : List (List AV)} (k : Nat), (∀ x ∈ L, x.length = sz) → (L.take k).flatten = L.flatten.take (k * sz)
 | [], k, _ => by simp
 | x :: L, 0, _ => by simp
 | x :: L, k + 1, h => by
  have hx := h x (by simp)
  rw [List.take_succ_cons, List.flatten_cons, List.flatten_cons, flatten_take_sz k (fun y hy => h y (by simp [hy])), List.take_append, hx]
  congr 1
  ·rw [List.take_of_length_le]; rw [hx, Nat.add_mul]; omega
  ·congr 1; rw [Nat.add_mul]; omega
theorem flatten_drop_sz {sz : Nat} : ∀ {L : List (List AV)} (k : Nat), (∀ x ∈ L, x.length = sz) → (L.drop k).flatten = L.flatten.drop (k * sz)
 | [], k, _ => by simp
 | x :: L, 0, _ => by simp
 | x :: L, k + 1, h => by
  have hx := h x (by simp)
  have e : (k + 1) * sz = x.length + k * sz := by rw [hx, Nat.add_mul]; omega
  rw [List.drop_succ_cons, List.flatten_cons, flatten_drop_sz k (fun y hy => h y (by simp [hy])), e, List.drop_length_add_append]
theorem g_rem {x y : Operand} {t yt : TypeId} {k : IntKind} {a b c : Int} (hx : xP env x = some (.int k a)) (hy : xP env y = some (.int k b)) (hb : b ≠ 0) (hc : a.tmod b = c) :
  GOp P ro ⟨dst, .binOp .rem t x y yt, ty, pos, after, guard⟩ env σ (Is (.int k c) σ) :=
 xZ _ (by intro c h; cases h) fun X M e w hg ho => by
  have h1 := ho x (by simp [Op.operands]) _ hx
  have h2 := ho y (by simp [Op.operands]) _ hy
  simp only [VRel] at h1 h2
  exact ⟨.int k c, by simp [VRel], by simp [execOp, h1, h2, eqGuard, binOp, Op.intDiv, Sem.run_bind, hb, hc]⟩
def opBits : BinOp → IntKind → Int → Int → Option Int
 | .and, k, x, y => some (k.wrap (BitVec.ofInt k.bits x &&& BitVec.ofInt k.bits y).toNat)
 | .or, k, x, y => some (k.wrap (BitVec.ofInt k.bits x ||| BitVec.ofInt k.bits y).toNat)
 | .xor, k, x, y => some (k.wrap (BitVec.ofInt k.bits x ^^^ BitVec.ofInt k.bits y).toNat)
 | .andNot, k, x, y => some (k.wrap (BitVec.ofInt k.bits x &&& ~~~ BitVec.ofInt k.bits y).toNat)
 | .shl, k, x, y => if y < 0 then none else some (k.wrap (x * 2 ^ min y.toNat k.bits))
 | .shr, k, x, y => if y < 0 then none else some (x.fdiv (2 ^ min y.toNat k.bits))
 | _, _, _, _ => none
theorem g_bits {op : BinOp} {x y : Operand} {t yt : TypeId} {k k' : IntKind} {a b c d : Int} (hx : xP env x = some (.int k a)) (hy : xP env y = some (.int k' b)) (hk : k' = k ∨ op = .shl ∨ op = .shr) (hc : opBits op k a b = some c) (hd : c = d) :
  GOp P ro ⟨dst, .binOp op t x y yt, ty, pos, after, guard⟩ env σ (Is (.int k d) σ) :=
 xZ _ (by intro c h; cases h) fun X M e w hg ho => by
  have h1 := ho x (by simp [Op.operands]) _ hx
  have h2 := ho y (by simp [Op.operands]) _ hy
  simp only [VRel] at h1 h2
  subst hd
  refine ⟨.int k c, by simp [VRel], ?_⟩
  cases op <;> simp only [opBits, reduceCtorEq] at hc
  case and => rcases hk with rfl | h | h <;> first | (cases h; done) | (cases hc; simp [execOp, h1, h2, eqGuard, binOp, Op.intBits, Sem.run_bind])
  case or => rcases hk with rfl | h | h <;> first | (cases h; done) | (cases hc; simp [execOp, h1, h2, eqGuard, binOp, Op.intBits, Sem.run_bind])
  case xor => rcases hk with rfl | h | h <;> first | (cases h; done) | (cases hc; simp [execOp, h1, h2, eqGuard, binOp, Op.intBits, Sem.run_bind])
  case andNot => rcases hk with rfl | h | h <;> first | (cases h; done) | (cases hc; simp [execOp, h1, h2, eqGuard, binOp, Op.intBits, Sem.run_bind])
  case shl =>
   split at hc
   ·cases hc
   ·rename_i h0
    cases hc
    simp [execOp, h1, h2, eqGuard, binOp, Op.shift, Sem.run_bind, h0]
  case shr =>
   split at hc
   ·cases hc
   ·rename_i h0
    cases hc
    simp [execOp, h1, h2, eqGuard, binOp, Op.shift, Sem.run_bind, h0]
end
section
variable {P : Program} {ro : Option Nat} {le : List Ent → List Ent → Prop} {ops : Array Oper}
def lexO (ef : List Nat) (ops : Array Oper) : Nat → List Nat → Array Bool → Bool
 | _, [], L => (Region.ready .any ops L).isEmpty
 | k, i :: r, L => (if ef.contains k then Region.ready .any ops L == [i] else (Region.ready .any ops L).contains i && Region.free .any ops L i) && lexO ef ops (k + 1) r (L.setIfInBounds i true)
theorem anyF_ord {ef : List Nat} {Q : EnvF → List Ent → Prop} (hrf : ∀ a, le a a) (htr : ∀ a b c, le a b → le b c → le a c) : ∀ (ord : List Nat) (l : List Oper) (k : Nat) (L : Array Bool) (e : EnvF) (σ : List Ent), l.map some = ord.map (ops[·]?) →
  lexO ef ops k ord L = true → WQ P ro le ef ops Q k l e σ → anyF P ro le ops Q l.length L e σ
 | [], [], _, _, _, _, _, hB, h => ⟨by simpa [lexO] using hB, h⟩
 | [], _ :: _, _, _, _, _, hl, _, _ => by cases hl
 | _ :: _, [], _, _, _, _, hl, _, _ => by cases hl
 | j :: ord, o :: l, k, L, e, σ, hl, hB, h => by
  simp only [List.map_cons, List.cons.injEq] at hl
  obtain ⟨h0, hl'⟩ := hl
  simp only [lexO, Bool.and_eq_true] at hB
  obtain ⟨hr, hB'⟩ := hB
  rcases h with ⟨he, hg, R, hR, hK⟩ | ⟨he, v, hy, hK⟩
  ·rw [if_pos he] at hr
   have hr' : Region.ready .any ops L = [j] := by simpa using hr
   refine ⟨fun h => (by rw [hr'] at h; cases h), fun i hi => ?_⟩
   rw [hr', List.mem_singleton] at hi
   subst hi
   unfold stepF
   simp only [← h0]
   exact .inr ⟨hg, .inr ⟨R, hR, fun v σ' hr2 => ⟨(hK v σ' hr2).1, anyF_ord hrf htr ord l (k + 1) _ _ _ hl' hB' (hK v σ' hr2).2⟩⟩⟩
  ·rw [if_neg (by rw [he]; simp), Bool.and_eq_true] at hr
   exact anyF_first hrf htr h0.symm l.length L e σ (Region.free_spec h0.symm hr.2) (by simpa using hr.1) hy
    (anyF_ord hrf htr ord l (k + 1) _ _ _ hl' hB' hK)
def pick (l : List Oper) (ord : List Nat) : List Oper := ord.filterMap (l[·]?)
theorem pick_map {l : List Oper} {m : Nat} : ∀ {ord : List Nat}, m ≤ l.length → (ord.all fun i => Nat.blt i m) = true → (pick l ord).map some = ord.map ((l.take m).toArray[·]?)
 | [], _, _ => rfl
 | i :: ord, hm, h => by
  simp only [List.all_cons, Bool.and_eq_true] at h
  have hi : i < m := by simpa using h.1
  have e : l[i]? = some l[i] := List.getElem?_eq_getElem (by omega)
  have e2 : (l.take m).toArray[i]? = some l[i] := by simp [List.getElem?_take, hi, e]
  have ih := pick_map hm h.2
  unfold pick at ih ⊢
  rw [List.filterMap_cons_some e, List.map_cons, List.map_cons, ih, e2]
theorem uS (kp : Ent → Prop) {env : Env} {σ : List Ent} {mk : List Nat} {n : Nat} {Q : Exit → St → Prop} {l : List Oper} {id : Nat} (m : Nat) (ord ef : List Nat) (hm : P.follows .mixedOrders = true) (hB : vZ [] l m = true) (hd : (l.all fun o => uN o.dst n) = true)
  (hO : lexO ef (l.take m).toArray 0 ord (Array.replicate m false) = true) (hp : ((ord.all fun i => Nat.blt i m) && Nat.beq ord.length m) = true)
  (h : WL P ro kp ef (l.take m).toArray (fun env σ => EXL P ro l.toArray (l.drop m) Q ⟨env, σ, mk, n⟩) 0 (pick l ord) env σ) : EX P ro (.region id l.toArray true) Q ⟨env, σ, mk, n⟩ := by
 refine ⟨fun X M a w hs => ?_⟩
 refine wpIn_region_any hm ?_
 have hB0 := hB
 simp only [vZ, Bool.and_eq_true, decide_eq_true_eq] at hB0
 obtain ⟨⟨⟨⟨_, _⟩, hpre⟩, htail⟩, hn⟩ := hB0
 rw [Bool.and_eq_true] at hp
 obtain ⟨hp1, hp2⟩ := hp
 have hol : ord.length = m := by simpa using hp2
 have hd' : ∀ o ∈ l, uN o.dst n = true := fun o ho => List.all_eq_true.1 hd o ho
 have hpm := pick_map hn hp1
 have hlen : (pick l ord).length = m := by
  have := congrArg List.length hpm
  simp only [List.length_map] at this
  omega
 have hany := anyF_ord (le := AddsK kp) (AddsK.refl) (fun _ _ _ => AddsK.trans) ord (pick l ord) 0 (Array.replicate m false) (lk env) σ hpm hO h.run
 rw [hlen] at hany
 have := any_head (P := P) (ro := ro) (le := AddsK kp) AddsK.refl (nn := n) (ds := marksD mk ++ X.dt) (Qr := postA X M Q) (g := l.length - m) (X := X) (M0 := M) hB hn hpre hd' (Q := fun e σ => ∃ env, lk env = e ∧ EXL P ro l.toArray (l.drop m) Q ⟨env, σ, mk, n⟩) ?_ m _ _ M (lk env) σ a _ (Goes.start hn) (Mem.le_refl M) ⟨hs.good.drew, hs.size, hs.defs, hs.env⟩ hany
 ·rw [List.size_toArray]
  rwa [show m + (l.length - m) = l.length by omega] at this
 ·intro M1 e σ a1 w1 hm1 hs1 hq
  obtain ⟨env, rfl, hx⟩ := hq
  have h1 := hx.run X M1 a1 w1 ⟨hs1.good, hs1.size, hs1.defs, hs1.env⟩
  have h2 := wK (fun _ _ _ hp => vB hm1 (fun _ _ h => h) hp) _ _ _ h1
  have h3 := any_tail (l.drop m) m (fullB l m) (fun j => by simp [List.getElem?_drop]) (by rw [List.length_drop]; exact htail) a1 w1 h2
  rwa [List.length_drop] at h3
end
inductive SealEnvC (env : Env) (v : Value) (x : AV) : Env → Prop
 | nil : SealEnvC env v x []
 | cons {t : Nat} {y y' : AV} {r : Env} (h : lk env t = some y) (hc : Cv v x [y] [y']) (k : SealEnvC env v x r) : SealEnvC env v x ((t, y') :: r)
theorem Good.perm {X : Fx} {M : Mem} {σ σ' : List Ent} {w : World} (h : Good X M σ w) (hp : σ.Perm σ') : Good X M σ' w :=
 ⟨h.os, h.tape, h.output, h.mem, h.frm, h.dis, fun e he => h.ent e (hp.mem_iff.2 he), fun e he => h.own e (hp.mem_iff.2 he), (hp.filterMap Ent.block).nodup_iff.1 h.nod⟩
theorem Good.framed {X : Fx} {M : Mem} {σ τ : List Ent} {w : World} (hg : Good X M (σ ++ τ) w) : ∃ X', Good X' M σ w ∧ ∀ M' σ1 w', M.le M' → Good X' M' σ1 w' → Good X M' (σ1 ++ τ) w' := by
 have hmem : ∀ e ∈ τ, ∀ b, e.block = some b → (Ent.mem w τ) b = w.heap[b]? := fun e he b hb => by
  unfold Ent.mem; rw [if_pos (List.mem_map.2 ⟨e, he, hb⟩)]
 obtain ⟨X', hX'⟩ : ∃ X' : Fx, X' = { w0 := X.w0, fr := fun b => (X.fr b).or (Ent.mem w τ b) } := ⟨_, rfl⟩
 have hnod := hg.nod
 rw [List.filterMap_append, List.nodup_append] at hnod
 have hmt : ∀ b o, Ent.mem w τ b = some o → ∃ e ∈ τ, e.block = some b := fun b o ho => by
  unfold Ent.mem at ho
  split at ho
  ·rename_i hb
   obtain ⟨e, he, hb⟩ := List.mem_map.1 hb
   exact ⟨e, he, hb⟩
  ·cases ho
 have hg' : Good X' M σ w := by
  refine ⟨by rw [hX']; exact hg.os, by rw [hX']; exact hg.tape, by rw [hX']; exact hg.output, hg.mem, ?_, ?_, fun e he => hg.ent e (List.mem_append.2 (.inl he)), ?_, hnod.1⟩
  ·intro b o ho
   rw [hX'] at ho
   simp only at ho
   cases hf : X.fr b with
   | some o' => rw [hf] at ho; simp only [Option.some_or, Option.some.injEq] at ho; subst ho; exact hg.frm b _ hf
   | none =>
    rw [hf, Option.none_or] at ho
    unfold Ent.mem at ho
    split at ho
    ·exact ho
    ·cases ho
  ·intro b o ho
   rw [hX']
   simp only [hg.dis b o ho, Option.none_or]
   cases hm : Ent.mem w τ b with
   | none => rfl
   | some o' =>
    obtain ⟨e', he', hb'⟩ := hmt b o' hm
    have := (hg.own e' (List.mem_append.2 (.inr he')) b hb').1
    rw [ho] at this; cases this
  ·intro e he b hb
   obtain ⟨k1, k2⟩ := hg.own e (List.mem_append.2 (.inl he)) b hb
   refine ⟨k1, ?_⟩
   rw [hX']
   simp only [k2, Option.none_or]
   cases hm : Ent.mem w τ b with
   | none => rfl
   | some o =>
    obtain ⟨e', he', hb'⟩ := hmt b o hm
    exact absurd rfl (hnod.2.2 b (List.mem_filterMap.2 ⟨e, he, hb⟩) b (List.mem_filterMap.2 ⟨e', he', hb'⟩))
 refine ⟨X', hg', fun M' σ1 w' hm hg1 => ?_⟩
 have kept : ∀ e ∈ τ, ∀ b, e.block = some b → w'.heap[b]? = w.heap[b]? := fun e he b hb => by
  have hlt := Ent.block_lt (hg.ent e (List.mem_append.2 (.inr he))) hb
  have ho : w.heap[b]? = some w.heap[b] := Array.getElem?_eq_getElem hlt
  rw [ho]
  refine hg1.frm b _ ?_
  rw [hX']
  have := (hg.own e (List.mem_append.2 (.inr he)) b hb).2
  simp only [this, Option.none_or, hmem e he b hb, ho]
 refine ⟨by have := hg1.os; rw [hX'] at this; exact this, by have := hg1.tape; rw [hX'] at this; exact this, by have := hg1.output; rw [hX'] at this; exact this, hg1.mem, ?_, ?_, ?_, ?_, ?_⟩
 ·intro b o ho
  refine hg1.frm b o ?_
  rw [hX']; simp [ho]
 ·intro b o ho
  have := hg1.dis b o ho
  rw [hX'] at this
  simp only at this
  cases hf : X.fr b with
  | none => rfl
  | some o => rw [hf] at this; cases this
 ·intro e he
  rcases List.mem_append.1 he with he | he
  ·exact hg1.ent e he
  ·exact ((hg.ent e (List.mem_append.2 (.inr he))).same (kept e he)).mono hm
 ·intro e he b hb
  rcases List.mem_append.1 he with he | he
  ·obtain ⟨k1, k2⟩ := hg1.own e he b hb
   refine ⟨k1, ?_⟩
   rw [hX'] at k2
   simp only at k2
   cases hf : X.fr b with
   | none => rfl
   | some o => rw [hf] at k2; cases k2
  ·obtain ⟨k1, k2⟩ := hg.own e (List.mem_append.2 (.inr he)) b hb
   refine ⟨?_, k2⟩
   cases hM : M' b with
   | none => rfl
   | some o =>
    have hlt := Ent.block_lt (hg.ent e (List.mem_append.2 (.inr he))) hb
    have hd := hg1.dis b o hM
    rw [hX'] at hd
    simp only [k2, Option.none_or, hmem e he b hb, Array.getElem?_eq_getElem hlt] at hd
    cases hd
 ·rw [List.filterMap_append, List.nodup_append]
  refine ⟨hg1.nod, hnod.2.1, fun b hb b' hb' heq => ?_⟩
  subst heq
  obtain ⟨e1, he1, hb1⟩ := List.mem_filterMap.1 hb
  obtain ⟨e2, he2, hb2⟩ := List.mem_filterMap.1 hb'
  have k2 := (hg1.own e1 he1 b hb1).2
  rw [hX'] at k2
  have := (hg.own e2 (List.mem_append.2 (.inr he2)) b hb2).2
  have hlt := Ent.block_lt (hg.ent e2 (List.mem_append.2 (.inr he2))) hb2
  simp only [this, Option.none_or, hmem e2 he2 b hb2, Array.getElem?_eq_getElem hlt] at k2
  cases k2
theorem SRound.frame {P : Program} {l : Nat} {args : List AV} {σ : List Ent} {Q : AV → List Ent → Prop} (τ : List Ent) (h : SRound P l args σ Q) : SRound P l args (σ ++ τ) fun r σ' => ∃ σ1, σ' = σ1 ++ τ ∧ Q r σ1 :=
 ⟨fun X M w vs hg ha => by
  obtain ⟨X', h1, h2⟩ := hg.framed
  obtain ⟨f, tmps, asg, body, k1, k2⟩ := h.run X' M w vs h1 ha
  exact ⟨f, tmps, asg, body, k1, k2.mono fun _ _ ⟨M', σ', r, v, q1, q2, q3, q4, q5⟩ => ⟨M', σ' ++ τ, r, v, q1, h2 M' σ' _ q1 q2, q3, q4, σ', rfl, q5⟩⟩⟩
theorem SRound.front {P : Program} {l : Nat} {args : List AV} {σ : List Ent} {Q : AV → List Ent → Prop} (τ : List Ent) (h : SRound P l args σ Q) : SRound P l args (τ ++ σ) fun r σ' => ∃ σ1, σ' = τ ++ σ1 ∧ Q r σ1 :=
 ⟨fun X M w vs hg ha => by
  obtain ⟨f, tmps, asg, body, k1, k2⟩ := (h.frame τ).run X M w vs (hg.perm List.perm_append_comm) ha
  exact ⟨f, tmps, asg, body, k1, k2.mono fun _ _ ⟨M', σ', r, v, q1, q2, q3, q4, σ1, e, q5⟩ => ⟨M', τ ++ σ1, r, v, q1, by subst e; exact q2.perm List.perm_append_comm, q3, q4, σ1, rfl, q5⟩⟩⟩
section
variable {P : Program} {ro : Option Nat} {env : Env} {σ σ' : List Ent} {dst : Option Tmp} {ty : TypeId} {pos : String} {after : Array Edge} {guard : Option (Nat × Bool)}
def arrOf (P : Program) (t : TypeId) : Option Nat := match P.underlying t with
 | some (.array _ e) => (P.info? e).map (·.size)
 | _ => none
theorem g_buildArr {t : TypeId} {parts : Array (Nat × Operand)} {sz : Nat} {z L : List AV} {l : List (Nat × AV)} (hp : arrOf P t = some sz) (hz : zeroA P t = some z) (hl : partsA env parts.toList = some l) (hf : fillA (fun i => some (i * sz, sz)) z l = some L) :
  GOp P ro ⟨dst, .build t parts, ty, pos, after, guard⟩ env σ (Is (.agg L) σ) :=
 xZ _ (by intro c h; cases h) fun X M a w hg ho => by
  obtain ⟨i, zv, hi, hzv, rfl⟩ := zeroA_spec hz
  obtain ⟨k1, k2⟩ := partsA_rel (a := a) (M := M) (fun x hx v hv => ho x (by simpa [Op.operands] using hx) v hv) hl
  obtain ⟨c', h1, h2⟩ := fill_rel (fun i => some (i * sz, sz)) l (parts.toList.map fun p => (p.1, a.eval p.2)) _ zv.cells L (cAs_rel M _) k1 k2 hf
  refine ⟨.agg c', ⟨c', rfl, h2⟩, ?_⟩
  unfold arrOf at hp
  cases hu : P.underlying t with
  | none => rw [hu] at hp; cases hp
  | some d =>
   rw [hu] at hp
   cases d <;> first | cases hp | skip
   rename_i n e
   simp only [Option.map_eq_some_iff] at hp
   obtain ⟨j, hj, rfl⟩ := hp
   simp only [execOp, Instr.build, Sem.run_bind, zeroValue, typeInfo, run_program, Result.andThen_ok, hi, Sem.run_pure, hzv, run_underlying hu, sizeOf, hj]
   simp [h1, Sem.run_bind]
end
section
variable {P : Program} {ro : Option Nat} {env : Env} {σ σ' : List Ent} {dst : Option Tmp} {ty : TypeId} {pos : String} {after : Array Edge} {guard : Option (Nat × Bool)}
def arr2Of (P : Program) (t : TypeId) : Bool := match P.underlying t with
 | some (.array 2 e) => match P.underlying e with
  | some (.int _) => (P.info? e).isSome && Nat.beq (P.cellsOf e) 1 && !P.eqGuardType P.depth t
  | _ => false
 | _ => false
def arr2A (P : Program) (t : TypeId) : Bool := match P.underlying t with
 | some (.array 2 _) => true
 | _ => false
theorem run_arr2 {t : TypeId} {k0 k1 : IntKind} {a0 a1 b0 b1 : Int} {xs ys : Array Value} (ht : arr2Of P t = true) (h1 : xs[0]? = some (.int k0 a0)) (h2 : xs[1]? = some (.int k1 a1)) (h3 : ys[0]? = some (.int k0 b0)) (h4 : ys[1]? = some (.int k1 b1)) (w : World) :
  (Op.equalIn 10000 t (.agg xs) (.agg ys)).run P w = .ok ((a0 == b0) && (a1 == b1)) w ∧ P.eqGuardType P.depth t = false := by
 unfold arr2Of at ht
 split at ht
 ·rename_i e hu
  split at ht
  ·rename_i k he
   simp only [Bool.and_eq_true, Bool.not_eq_true', Option.isSome_iff_exists] at ht
   obtain ⟨⟨⟨i, hi⟩, hc⟩, hg⟩ := ht
   have hc : P.cellsOf e = 1 := by simpa using hc
   refine ⟨?_, hg⟩
   rw [run_equalIn_array w 9999 xs ys hu hi, hc]
   have r1 := qF (P := P) (isAgg_int he hi w) h1
   have r2 := qF (P := P) (isAgg_int he hi w) h2
   have r3 := qF (P := P) (isAgg_int he hi w) h3
   have r4 := qF (P := P) (isAgg_int he hi w) h4
   have q1 : (Op.equalIn 9999 e (.int k0 a0) (.int k0 b0)).run P w = .ok (a0 == b0) w := run_equalIn_int (P := P) w 9998 e k0 k a0 b0 he
   have q2 : (Op.equalIn 9999 e (.int k1 a1) (.int k1 b1)).run P w = .ok (a1 == b1) w := run_equalIn_int (P := P) w 9998 e k1 k a1 b1 he
   have hr : List.range 2 = [0, 1] := rfl
   rw [hr]
   simp only [Op.eqItems, Sem.run_bind, Nat.zero_mul, Nat.one_mul, r1, r2, r3, r4, Result.andThen_ok, q1, q2]
   cases hab : a0 == b0
   ·simp
   ·cases hab2 : a1 == b1 <;> simp [r2, r4, q2, hab2]
  ·cases ht
 ·cases ht
theorem g_eqlArr2 {x y : Operand} {t yt : TypeId} {k0 k1 : IntKind} {a0 a1 b0 b1 : Int} (_ : arr2A P t = true) (ht : arr2Of P t = true) (hx : xP env x = some (.agg [.int k0 a0, .int k1 a1])) (hy : xP env y = some (.agg [.int k0 b0, .int k1 b1])) :
  GOp P ro ⟨dst, .binOp .eql t x y yt, ty, pos, after, guard⟩ env σ (Is (.bool ((a0 == b0) && (a1 == b1))) σ) :=
 xZ _ (by intro c h; cases h) fun X M e w hg ho => by
  have h1 := ho x (by simp [Op.operands]) _ hx
  have h2 := ho y (by simp [Op.operands]) _ hy
  simp only [VRel] at h1 h2
  obtain ⟨vs, e1, k1'⟩ := h1
  obtain ⟨us, e2, k2'⟩ := h2
  obtain ⟨v0, p0, q0⟩ := k1'.get (i := 0) rfl
  obtain ⟨v1, p1, q1⟩ := k1'.get (i := 1) rfl
  obtain ⟨u0, p2, q2⟩ := k2'.get (i := 0) rfl
  obtain ⟨u1, p3, q3⟩ := k2'.get (i := 1) rfl
  simp only [VRel] at q0 q1 q2 q3
  subst q0 q1 q2 q3
  obtain ⟨hr, hg2⟩ := run_arr2 (P := P) ht (by simpa using p0) (by simpa using p1) (by simpa using p2) (by simpa using p3) w
  refine ⟨.bool ((a0 == b0) && (a1 == b1)), by simp [VRel], ?_⟩
  simp only [execOp, e1, e2, Sem.run_bind, run_eqGuard_agg w .eql t x y vs us hg2, Result.andThen_ok, run_eql_struct, hr]
  rfl
theorem g_neqArr2 {x y : Operand} {t yt : TypeId} {k0 k1 : IntKind} {a0 a1 b0 b1 : Int} (_ : arr2A P t = true) (ht : arr2Of P t = true) (hx : xP env x = some (.agg [.int k0 a0, .int k1 a1])) (hy : xP env y = some (.agg [.int k0 b0, .int k1 b1])) :
  GOp P ro ⟨dst, .binOp .neq t x y yt, ty, pos, after, guard⟩ env σ (Is (.bool (!((a0 == b0) && (a1 == b1)))) σ) :=
 xZ _ (by intro c h; cases h) fun X M e w hg ho => by
  have h1 := ho x (by simp [Op.operands]) _ hx
  have h2 := ho y (by simp [Op.operands]) _ hy
  simp only [VRel] at h1 h2
  obtain ⟨vs, e1, k1'⟩ := h1
  obtain ⟨us, e2, k2'⟩ := h2
  obtain ⟨v0, p0, q0⟩ := k1'.get (i := 0) rfl
  obtain ⟨v1, p1, q1⟩ := k1'.get (i := 1) rfl
  obtain ⟨u0, p2, q2⟩ := k2'.get (i := 0) rfl
  obtain ⟨u1, p3, q3⟩ := k2'.get (i := 1) rfl
  simp only [VRel] at q0 q1 q2 q3
  subst q0 q1 q2 q3
  obtain ⟨hr, hg2⟩ := run_arr2 (P := P) ht (by simpa using p0) (by simpa using p1) (by simpa using p2) (by simpa using p3) w
  refine ⟨.bool (!((a0 == b0) && (a1 == b1))), by simp [VRel], ?_⟩
  simp only [execOp, e1, e2, Sem.run_bind, run_eqGuard_agg w .neq t x y vs us hg2, Result.andThen_ok, run_neq_struct, hr]
  rfl
end
structure AF (P : Program) (ro : Option Nat) (kp : Ent → Prop) (ops : Array Oper) (F : Env → List Ent → Prop) (f : Nat) (L : Array Bool) (env : Env) (σ : List Ent) : Prop where
 run : anyF P ro (AddsK kp) ops (fun e σ => ∃ env, lk env = e ∧ F env σ) f L (lk env) σ
section
variable {P : Program} {ro : Option Nat} {kp : Ent → Prop} {ops : Array Oper} {F : Env → List Ent → Prop} {f : Nat} {L L' : Array Bool} {env : Env} {σ : List Ent} {o : Oper}
theorem ex_drawAF (kp : Ent → Prop) {mk : List Nat} {n : Nat} {Q : Exit → St → Prop} {l : List Oper} {id : Nat} (m : Nat) (hm : P.follows .mixedOrders = true) (hB : vZ [] l m = true) (hd : (l.all fun o => uN o.dst n) = true)
  (h : AF P ro kp (l.take m).toArray (fun env σ => EXL P ro l.toArray (l.drop m) Q ⟨env, σ, mk, n⟩) m (Array.replicate m false) env σ) : EX P ro (.region id l.toArray true) Q ⟨env, σ, mk, n⟩ := by
 refine ⟨fun X M a w hs => ?_⟩
 refine wpIn_region_any hm ?_
 have hB0 := hB
 simp only [vZ, Bool.and_eq_true, decide_eq_true_eq] at hB0
 obtain ⟨⟨⟨⟨_, _⟩, hpre⟩, htail⟩, hn⟩ := hB0
 have hd' : ∀ o ∈ l, uN o.dst n = true := fun o ho => List.all_eq_true.1 hd o ho
 have hany := h.run
 have := any_head (P := P) (ro := ro) (le := AddsK kp) AddsK.refl (nn := n) (ds := marksD mk ++ X.dt) (Qr := postA X M Q) (g := l.length - m) (X := X) (M0 := M) hB hn hpre hd' (Q := fun e σ => ∃ env, lk env = e ∧ EXL P ro l.toArray (l.drop m) Q ⟨env, σ, mk, n⟩) ?_ m _ _ M (lk env) σ a _ (Goes.start hn) (Mem.le_refl M) ⟨hs.good.drew, hs.size, hs.defs, hs.env⟩ hany
 ·rw [List.size_toArray]
  rwa [show m + (l.length - m) = l.length by omega] at this
 ·intro M1 e σ a1 w1 hm1 hs1 hq
  obtain ⟨env, rfl, hx⟩ := hq
  have h1 := hx.run X M1 a1 w1 ⟨hs1.good, hs1.size, hs1.defs, hs1.env⟩
  have h2 := wK (fun _ _ _ hp => vB hm1 (fun _ _ h => h) hp) _ _ _ h1
  have h3 := any_tail (l.drop m) m (fullB l m) (fun j => by simp [List.getElem?_drop]) (by rw [List.length_drop]; exact htail) a1 w1 h2
  rwa [List.length_drop] at h3
end
theorem ex_perm {P : Program} {ro : Option Nat} {c : Code} {Q : Exit → St → Prop} {env : Env} {σ σ' : List Ent} {mk : List Nat} {n : Nat} (hp : σ.Perm σ') (h : EX P ro c Q ⟨env, σ', mk, n⟩) : EX P ro c Q ⟨env, σ, mk, n⟩ :=
 ⟨fun X M a w hs => h.run X M a w ⟨hs.good.perm hp, hs.size, hs.defs, hs.env⟩⟩
theorem exl_perm {P : Program} {ro : Option Nat} {ops : Array Oper} {rest : List Oper} {Q : Exit → St → Prop} {env : Env} {σ σ' : List Ent} {mk : List Nat} {n : Nat} (hp : σ.Perm σ') (h : EXL P ro ops rest Q ⟨env, σ', mk, n⟩) : EXL P ro ops rest Q ⟨env, σ, mk, n⟩ :=
 ⟨fun X M a w hs => h.run X M a w ⟨hs.good.perm hp, hs.size, hs.defs, hs.env⟩⟩
open Go.MapKept
structure MapE (es : Array MapEntry) (clock : Nat) (K : Int → Int) (n : Nat) : Prop where
 st : Stamped es clock
 ks : ∀ e ∈ es.toList, ∃ a, e.key = .int .i64 a ∧ K a ≠ 0 ∧ e.val = .int .i64 (K a)
 al : ∀ a, K a ≠ 0 → ∃ e ∈ es.toList, e.key = .int .i64 a
 sz : es.size = n
def Hit (es : Array MapEntry) (seen : Array Nat) (q : Int) : Prop := ∃ e ∈ es.toList, e.key = .int .i64 q ∧ seen.contains e.born = true
theorem Hit.none (es : Array MapEntry) (q : Int) : ¬ Hit es #[] q := by
 rintro ⟨e, _, _, h⟩; simp at h
section
variable {P : Program} {ro : Option Nat} {env : Env} {σ : List Ent} {dst : Option Tmp} {ty : TypeId} {pos : String} {after : Array Edge} {guard : Option (Nat × Bool)}
end
def heapM (w : World) : Mem := fun b => w.heap[b]?
inductive Lend (σ : List Ent) : List AV → List AV → Prop
 | refl {a : List AV} : Lend σ a a
 | step {a b c : List AV} {v : Value} {e : TypeId} {sz : Nat} {l : List (List AV)} (hm : Ent.row v e sz l ∈ σ) (hc : Cv v (.dl sz l) a b) (h : Lend σ b c) : Lend σ a c
def AV.pure : AV → Bool
 | .int _ _ => true
 | .bool _ => true
 | .tup [.int _ _, .int _ _] => true
 | .tup [.bool _, .int _ _] => true
 | _ => false
section
variable {P : Program} {ro : Option Nat} {env : Env} {σ : List Ent} {dst : Option Tmp} {ty : TypeId} {pos : String} {after : Array Edge} {guard : Option (Nat × Bool)}
def arrTy (P : Program) (t : TypeId) : Option (Nat × Nat) := match P.underlying t with
 | some (.array n e) => (P.info? e).map fun i => (n, i.size)
 | _ => none
theorem arrTy_spec {t : TypeId} {n sz : Nat} (h : arrTy P t = some (n, sz)) : ∃ e i, P.underlying t = some (.array n e) ∧ P.info? e = some i ∧ i.size = sz := by
 unfold arrTy at h
 split at h
 ·rename_i m e hu
  simp only [Option.map_eq_some_iff, Prod.mk.injEq] at h
  obtain ⟨i, hi, rfl, rfl⟩ := h
  exact ⟨e, i, hu, hi, rfl⟩
 ·cases h
theorem yT {t : TypeId} {x ix : Operand} {n sz k : Nat} {kk : IntKind} {i : Int} {p q : AV} (ht : arrTy P t = some (n, sz)) (hx : xP env x = some p) (hi : xP env ix = some (.int kk i)) (hk : i = (k : Int)) (hlt : k < n) (hq : p.plus (k * sz) = some q) :
  GOp P ro ⟨dst, .indexAddr t x ix, ty, pos, after, guard⟩ env σ (Is q σ) :=
 xZ q (by intro c h; cases h) fun X M a w hg ho => by
  have h1 := ho x (by simp [Op.operands]) _ hx
  have h2 := ho ix (by simp [Op.operands]) _ hi
  obtain ⟨ad, h3, h4⟩ := h1.plus hq
  simp only [VRel] at h2
  obtain ⟨e, inf, hu, hinf, hsz⟩ := arrTy_spec ht
  refine ⟨_, h4, ?_⟩
  subst hk
  simp [execOp, h2, h3, Instr.indexAt, Instr.sureAddr, asIntOf, Sem.run_bind, run_underlying hu, sizeOf, typeInfo, hinf, hsz, hlt]
def arrOne (P : Program) (t : TypeId) : Option Nat := match P.underlying t with
 | some (.array n e) => match tyOf P e with
  | some (false, 1) => some n
  | _ => none
 | _ => none
theorem g_index1 {t : TypeId} {x ix : Operand} {n k : Nat} {kk : IntKind} {i : Int} {l : List AV} {v : AV} (ht : arrOne P t = some n) (hx : xP env x = some (.agg l)) (hi : xP env ix = some (.int kk i)) (hk : i = (k : Int)) (hlt : k < n) (hv : l[k]? = some v) :
  GOp P ro ⟨dst, .index t x ix, ty, pos, after, guard⟩ env σ (Is v σ) :=
 xZ v (by intro c h; cases h) fun X M a w hg ho => by
  have h1 := ho x (by simp [Op.operands]) _ hx
  have h2 := ho ix (by simp [Op.operands]) _ hi
  simp only [VRel] at h1 h2
  obtain ⟨vs, e, h3⟩ := h1
  obtain ⟨u, h4, h5⟩ := h3.get hv
  unfold arrOne at ht
  split at ht
  ·rename_i m el hu
   split at ht
   ·rename_i hty
    cases ht
    obtain ⟨k1, k2⟩ := tU hty w
    subst hk
    exact ⟨u, h5, by simp [execOp, e, h2, Instr.index, asIntOf, Sem.run_bind, run_underlying hu, part, k1, k2, hlt, show vs[k]? = some u by simpa using h4]⟩
   ·cases ht
  ·cases ht
theorem rrel_ones {M : Mem} {b : Nat} : ∀ {l : List AV} {i : Nat}, CRel M b i l → RRel M b i (l.map fun x => [x])
 | [], _, _ => by simp [RRel]
 | x :: l, i, h => by
  simp only [CRel] at h
  simp only [List.map_cons, RRel, CRel, List.length_singleton]
  exact ⟨⟨h.1, trivial⟩, rrel_ones h.2⟩
theorem g_remP {x y : Operand} {t yt : TypeId} {k : IntKind} {a b : Int} (hx : xP env x = some (.int k a)) (hy : xP env y = some (.int k b)) (h : 0 ≤ a ∧ 0 < b) :
  GOp P ro ⟨dst, .binOp .rem t x y yt, ty, pos, after, guard⟩ env σ (Is (.int k (a % b)) σ) :=
 g_rem hx hy (by omega) (Int.tmod_eq_emod_of_nonneg h.1)
end
section
variable {P : Program} {ro : Option Nat} {env : Env} {σ : List Ent} {dst : Option Tmp} {ty : TypeId} {pos : String} {after : Array Edge} {guard : Option (Nat × Bool)}
theorem bound_eval {M : Mem} {a : Act} {o : Oper} {hi : Operand} {hj : Int} {h d : Nat} (ho : OpRel M env a o) (hm : hi ∈ o.op.operands) (hhi : tA env d (some hi) = some hj) (hh : hj = (h : Int)) : ∃ k, a.eval hi = .int k (h : Int) := by
 simp only [tA] at hhi
 split at hhi
 ·rename_i k m he
  cases hhi
  have := ho hi hm _ he
  simp only [VRel] at this
  exact ⟨_, this.trans (by rw [hh])⟩
 ·cases hhi
end
section
variable {P : Program} {ro : Option Nat} {env : Env} {σ : List Ent} {dst : Option Tmp} {ty : TypeId} {pos : String} {after : Array Edge} {guard : Option (Nat × Bool)}
def cut {α : Type} (L : List α) (a b : Nat) : List α := (L.drop a).take (b - a)
inductive SrcC (σ : List Ent) (sz : Nat) : AV → List (List AV) → Prop
 | s {x : AV} {m : List (List AV)} (h : Src σ x sz m) : SrcC σ sz x m
 | p {v : Value} {e : TypeId} {L : List (List AV)} {a b : Nat} (h : Ent.row v e sz L ∈ σ) (h1 : a ≤ b) (h2 : b ≤ L.length) : SrcC σ sz (.raw (subS sz v a b)) (cut L a b)
theorem cut_flat {sz : Nat} {L : List (List AV)} {a b : Nat} (h : ∀ x ∈ L, x.length = sz) : (cut L a b).flatten = cut L.flatten (a * sz) (b * sz) := by
 unfold cut
 rw [flatten_take_sz (b - a) (fun x hx => h x (List.mem_of_mem_drop hx)), flatten_drop_sz a h, Nat.sub_mul]
theorem cut_len {α : Type} {L : List α} {a b : Nat} (h : b ≤ L.length) : (cut L a b).length = b - a := by unfold cut; rw [List.length_take, List.length_drop]; omega
theorem srcC_vals {X : Fx} {M : Mem} {w : World} (hg : Good X M σ w) {x : AV} {sz : Nat} {m : List (List AV)} (h : SrcC σ sz x m) {u : Value} (hu : VRel M x u) :
  ∃ a cap, u = .slice a m.length cap ∧ ∃ vs : List Value, VRels M m.flatten vs ∧ vs.length = m.length * sz ∧ (∀ x ∈ m, x.length = sz) ∧ (a = none → m = []) ∧ ∀ ad, a = some ad → ∀ (j : Nat) (v : Value), vs[j]? = some v → w.cell? (ad.add j) = some v := by
 cases h with
 | s h => exact src_vals hg h hu
 | @p v e L a b hm h1 h2 =>
  simp only [VRel] at hu
  subst hu
  obtain ⟨xs, hown, hr, hs⟩ := hg.ent _ hm
  have hl := hown.1
  have hms : ∀ x ∈ cut L a b, x.length = sz := fun x hx => hs x (List.mem_of_mem_drop (List.mem_of_mem_take hx))
  have hba : b * sz ≤ L.length * sz := Nat.mul_le_mul_right _ h2
  have hab : a * sz ≤ b * sz := Nat.mul_le_mul_right _ h1
  have hvr : VRels M (cut L a b).flatten (cut xs (a * sz) (b * sz)) := by
   rw [cut_flat hs]
   exact (hr.drop _).take _
  have hvl : (cut xs (a * sz) (b * sz)).length = (cut L a b).length * sz := by rw [cut_len (by omega), cut_len h2, Nat.sub_mul]
  rcases hown.2 with ⟨rfl, h0⟩ | ⟨g, cap, cur, rfl, hbg, hgg, hnc, hcm, hcs, htk⟩
  ·obtain rfl : a = 0 := by omega
   obtain rfl : b = 0 := by omega
   exact ⟨none, 0, by simp [subS, cut], _, hvr, hvl, hms, fun _ => by simp [cut], by simp⟩
  ·refine ⟨some (if cap = a then ⟨g, 0, none⟩ else (⟨g, 0, none⟩ : Addr).add (a * sz)), cap - a, ?_, _, hvr, hvl, hms, by simp, ?_⟩
   ·rw [cut_len h2]
    show Value.slice (if cap = a then some ⟨g, 0, none⟩ else (some (⟨g, 0, none⟩ : Addr)).map (·.add (a * sz))) (b - a) (cap - a) = _
    split <;> rfl
   ·rintro ad ⟨⟩ j u hj
    have hcell : ∀ (j : Nat) (u : Value), xs[j]? = some u → w.cell? ((⟨g, 0, none⟩ : Addr).add j) = some u := hown.cells (g := g) rfl
    by_cases hc : cap = a
    ·have : (cut xs (a * sz) (b * sz)).length = 0 := by rw [hvl, cut_len h2, show b - a = 0 by omega, Nat.zero_mul]
     rw [List.getElem?_eq_none (by omega)] at hj; cases hj
    ·rw [if_neg hc]
     unfold cut at hj
     rw [List.getElem?_take] at hj
     split at hj
     ·rw [List.getElem?_drop] at hj
      have := hcell _ _ hj
      rw [Addr.add_lit] at this ⊢
      rw [Addr.add_lit]
      simpa [Nat.add_assoc] using this
     ·cases hj
def over {α : Type} (L : List α) (a : Nat) (m : List α) : List α := L.take a ++ m ++ L.drop (a + m.length)
end
section
variable {P : Program} {ro : Option Nat} {env : Env} {σ : List Ent} {dst : Option Tmp} {ty : TypeId} {pos : String} {after : Array Edge} {guard : Option (Nat × Bool)}
end
section
variable {P : Program} {ro : Option Nat} {env : Env} {σ : List Ent} {o : Oper} {dst : Option Tmp} {ty : TypeId} {pos : String} {after : Array Edge} {guard : Option (Nat × Bool)}
theorem VRel.untight {M : Mem} {sz : Nat} {l : List (List AV)} {u : Value} (h : VRel M (.dlt sz l) u) : VRel M (.dl sz l) u := by
 simp only [VRel] at *
 obtain ⟨a, h1, h2, h3, h4⟩ := h
 exact ⟨a, l.length, h1, Nat.le_refl _, h2, h3, h4⟩
theorem g_slice3 {t e : TypeId} {sz k : Nat} {x hi mx : Operand} {L : List (List AV)} {hj mj : Int} (ht : tB P t = some (e, sz)) (hx : xP env x = some (.dl sz L)) (hhi : tA env 0 (some hi) = some hj) (hmx : tA env 0 (some mx) = some mj) (hh : hj = (k : Int)) (hm : mj = (k : Int)) (hk : k ≤ L.length) :
  GOp P ro ⟨dst, .slice t x none (some hi) (some mx), ty, pos, after, guard⟩ env σ (Is (.dlt sz (L.take k)) σ) :=
 xZ _ (by intro c hc; cases hc) fun X M a w hg ho => by
  have h1 := ho x (by simp [Op.operands]) _ hx
  simp only [VRel] at h1
  obtain ⟨ad, cap, hv, h2, h3, h4, h5⟩ := h1
  obtain ⟨kk, hkk⟩ := bound_eval ho (by simp [Op.operands]) hhi hh
  obtain ⟨km, hkm⟩ := bound_eval ho (by simp [Op.operands]) hmx hm
  obtain ⟨hue, inf, hinf, hsz⟩ := qC ht
  have hlen : (L.take k).length = k := by rw [List.length_take]; omega
  have hkc : k ≤ cap := by omega
  refine ⟨.slice (if k = 0 then ad else ad.map (·.add (0 * sz))) k k, ?_, ?_⟩
  ·simp only [VRel]
   refine ⟨_, by rw [hlen], by omega, fun y hy => h4 y (List.mem_of_mem_take hy), ?_⟩
   by_cases h0 : k = 0
   ·left; subst h0; rfl
   ·rcases h5 with rfl | ⟨b, off, rfl, hr⟩
    ·left; simp
    ·right
     refine ⟨b, off, ?_, RRel.take k hr⟩
     rw [if_neg h0]; simp only [Option.map_some, Option.some.injEq]; unfold Addr.add; split <;> simp_all
  ·simp [execOp, hv, hkk, hkm, Instr.sliceAt, Instr.slice, run_underlying hue, Instr.sliceBounds, Sem.run_bind, sizeOf, typeInfo, hinf, hsz, Instr.sliceBound, asIntOf, hkc]
theorem g_slice3D {t e : TypeId} {sz k : Nat} {x hi mx : Operand} {L : List (List AV)} {hj mj : Int} (ht : tB P t = some (e, sz)) (hx : xP env x = some (.dl sz L)) (hhi : tA env 0 (some hi) = some hj) (hmx : tA env 0 (some mx) = some mj) (hh : hj = (k : Int)) (hm : mj = (k : Int)) (hk : k ≤ L.length) :
  GOp P ro ⟨dst, .slice t x none (some hi) (some mx), ty, pos, after, guard⟩ env σ (Is (.dl sz (L.take k)) σ) := by
 have h := g_slice3 (ro := ro) (dst := dst) (ty := ty) (pos := pos) (after := after) (guard := guard) (σ := σ) ht hx hhi hmx hh hm hk
 refine ⟨fun X M a w hg ho K Qx hK => h.run X M a w hg ho K Qx ?_⟩
 rintro M' u w' v σ' hle hgd hv ⟨⟩
 exact hK M' _ w' _ _ hle hgd hv.untight .mk
theorem run_append_zero {w : World} (t ty' e : TypeId) (i : TypeInfo) (ht : P.underlying t = some (.slice e)) (hi : P.info? e = some i) (ad sa : Option Addr) (n c : Nat) (hn : ad = none → n = 0) :
  (Builtin.append_ #[t, t] ty' #[.slice ad n n, .slice sa 0 c]).run P w = .ok (.slice ad n n) w := by
 have hld : ∀ (q : Addr), (loadCells q 0).run P w = .ok #[] w := fun q => by simpa using run_loadCells_list (P := P) w q [] (by simp)
 cases ad with
 | none =>
  have := hn rfl; subst this
  cases sa <;> simp [Builtin.append_, run_underlying ht, sizeOf, typeInfo, hi, Builtin.lenOf, Builtin.firstCells, storeCells, hld]
 | some ad => cases sa <;> simp [Builtin.append_, run_underlying ht, sizeOf, typeInfo, hi, Builtin.lenOf, Builtin.firstCells, storeCells, hld]
theorem g_appendT {t e : TypeId} {sz bytes : Nat} {s x : Operand} {xv : AV} {L m : List (List AV)} (ht : appOf P t = some (e, sz, bytes)) (hs : xP env s = some (.dlt sz L)) (hx : xP env x = some xv)
  (hsrc : SrcC σ sz xv m) (hm0 : m ≠ []) (hb : (L.length + m.length) * bytes ≤ 140737488355328) :
  GOp P ro ⟨dst, .call { callee := .builtin .append, args := #[s, x], argTypes := #[t, t] }, ty, pos, after, guard⟩ env σ (Rowed e sz (L ++ m) σ) :=
 tW (by intro c h; cases h) fun X M a w hg ho => by
  have h1 := ho s (by simp [Op.operands, Call.operands]) _ hs
  have h2 := ho x (by simp [Op.operands, Call.operands]) _ hx
  obtain ⟨la, lcap, hlv, ls, l1, l2, l3, l4, l5⟩ := src_vals hg (.d (σ := σ)) h1.untight
  simp only [VRel] at h1
  obtain ⟨la', hlv', hlm, _, _⟩ := h1
  rw [hlv'] at hlv
  cases hlv
  obtain ⟨hue, i, z, hi, hz, hsz, hby, hzl, h0, hb0⟩ := appOf_spec ht
  obtain ⟨sa, scap, hsv, vs, hv1, hv2, hv3, hv4, hv5⟩ := srcC_vals hg hsrc h2
  have hmp : 0 < m.length := List.length_pos_iff.2 hm0
  cases sa with
  | none => exact absurd (hv4 rfl) hm0
  | some ad =>
   have h63 : L.length + m.length ≤ maxLen := by
    have := Nat.le_mul_of_pos_right (L.length + m.length) hb0
    unfold maxLen; omega
   have hsm : L.length + m.length ≤ 9223372036854775807 := by unfold maxLen at h63; omega
   have hon : (ls.toArray ++ vs.toArray).size = (L.length + m.length) * sz := by
    rw [Array.size_append, List.size_toArray, List.size_toArray, l2, hv2, Nat.add_mul]
   have hzc : ∀ q, (Builtin.zeroCells z.cells q).size = q * sz := fun q => by simp [Builtin.zeroCells, hzl]
   have hge := grownCap_ge w (L.length + m.length) L.length e
   have hcm : grownCap w (L.length + m.length) L.length e ≤ maxLen := grownCap_le_maxLen w (L.length + m.length) L.length e h63
   have hll : (L ++ m).length = L.length + m.length := List.length_append
   have hgd := alloc_row hg.drew (ls.toArray ++ vs.toArray ++ Builtin.zeroCells z.cells (grownCap w (L.length + m.length) L.length e - (L.length + m.length))) e sz (l := L ++ m) (cap := grownCap w (L.length + m.length) L.length e) (by rw [hll]; exact hge) hcm (by rw [Array.size_append, hon, hzc, ← Nat.add_mul]; congr 1; omega) (fun y hy => by
    rcases List.mem_append.1 hy with hy | hy
    ·exact l3 y hy
    ·exact hv3 y hy) (by
    rw [hll, Array.toList_append, List.take_left' (by rw [Array.length_toList]; exact hon), List.flatten_append]
    have := l1.append hv1
    simpa using this)
   rw [hll] at hgd
   have hrun : (Builtin.append_ #[t, t] ty #[a.eval s, .slice (some ad) m.length scap]).run P w = .ok (.slice (some ⟨w.heap.size, 0, none⟩) (L.length + m.length) (grownCap w (L.length + m.length) L.length e)) (w.drew.alloc (.cells (ls.toArray ++ vs.toArray ++ Builtin.zeroCells z.cells (grownCap w (L.length + m.length) L.length e - (L.length + m.length))) e)) := by
    rw [hlv']
    cases la with
    | none =>
     have hL := l4 rfl
     subst hL
     obtain rfl : ls = [] := List.eq_nil_of_length_eq_zero (by simpa using l2)
     have := run_append_nil (P := P) (w := w) t ty e i z hue hi hz ad m.length scap vs (by rw [hv2, hsz]) (hv5 ad rfl) hmp (by simp at hsm; omega) (by rw [hby]; simp at hb; omega)
     simpa using this
    | some lb =>
     exact run_append_grow (P := P) w t ty e i z hue hi hz lb L.length L.length ls (by rw [l2, hsz]) (l5 lb rfl) ad m.length scap vs (by rw [hv2, hsz]) (hv5 ad rfl) (by omega) (by omega) (growslice_fits (by omega) (by rw [hby]; exact hb))
   refine ⟨M, .slice (some ⟨w.heap.size, 0, none⟩) (L.length + m.length) (grownCap w (L.length + m.length) L.length e), _, .slv _, _, Mem.le_refl M, hgd, by simp [VRel, Value.isSl], .mk _, .inl ?_⟩
   simp only [execOp, resolve, invoke, builtin, Sem.run_bind, Sem.run_pure, Result.andThen_ok, List.map_toArray, List.map_cons, List.map_nil, hsv, hrun]
   rfl
theorem g_appendTS {t e : TypeId} {sz bytes : Nat} {s x : Operand} {xv : AV} {L m : List (List AV)} (ht : appOf P t = some (e, sz, bytes)) (hs : xP env s = some (.dlt sz L)) (hx : xP env x = some xv)
  (hsrc : SrcC σ sz xv m) (hb : (L.length + m.length) * bytes ≤ 140737488355328) :
  GOp P ro ⟨dst, .call { callee := .builtin .append, args := #[s, x], argTypes := #[t, t] }, ty, pos, after, guard⟩ env σ (Is (.dl sz (L ++ m)) σ) := by
 by_cases hm0 : m = []
 ·subst hm0
  refine xZ _ (by intro c h; cases h) fun X M a w hg ho => ?_
  have h1 := ho s (by simp [Op.operands, Call.operands]) _ hs
  have h2 := ho x (by simp [Op.operands, Call.operands]) _ hx
  have h1' := h1.untight
  obtain ⟨sa, scap, hsv, vs, hv1, hv2, hv3, hv4, hv5⟩ := srcC_vals hg hsrc h2
  simp only [VRel] at h1
  obtain ⟨la', hlv', hlm, _, hd⟩ := h1
  obtain ⟨hue, i, z, hi, hz, hsz, hby, hzl, h0, hb0⟩ := appOf_spec ht
  refine ⟨a.eval s, by rw [List.append_nil]; exact h1', ?_⟩
  have hn : la' = none → L.length = 0 := fun e => by
   rcases hd with rfl | ⟨b, off, h, _⟩
   ·rfl
   ·rw [e] at h; cases h
  have hrun := run_append_zero (P := P) (w := w) t ty e i hue hi la' sa L.length scap hn
  simp only [List.length_nil] at hsv
  simp only [execOp, resolve, invoke, builtin, Sem.run_bind, Sem.run_pure, Result.andThen_ok, List.map_toArray, List.map_cons, List.map_nil, hsv, hlv', hrun]
 ·exact xE (g_appendT ht hs hx hsrc hm0 hb)
end
section
variable {P : Program} {ro : Option Nat} {env : Env} {σ : List Ent} {dst : Option Tmp} {ty : TypeId} {pos : String} {after : Array Edge} {guard : Option (Nat × Bool)}
end
section
variable {P : Program} {ro : Option Nat} {Q : Exit → St → Prop} {ops : Array Oper}
theorem opIn_mono {F : Fence} {n : Nat} {o : Oper} {a : Act} {w : World} {K1 K2 : Act → World → Prop} {Q1 Q2 : Exit → Act → World → Prop} (hk : ∀ a w, K1 a w → K2 a w) (hq : ∀ e a w, e ≠ .normal → Q1 e a w → Q2 e a w) (h : o.wpIn F n P a w K1 Q1) : o.wpIn F n P a w K2 Q2 := by
 unfold Oper.wpIn at h ⊢
 refine ⟨h.1, ?_⟩
 have h2 := h.2
 generalize (o.semAt F.round a.eval).run P w = r at h2
 cases r with
 | ok nx w' =>
  cases nx <;> simp only [Oper.uponIn] at h2 ⊢ <;> first
   | exact hk _ _ h2
   | exact ⟨h2.1, CallsIn.mono h2.2 (fun e w' he => by cases e <;> first | exact hk _ _ he | exact hq _ _ _ (by intro hn; cases hn) he | exact let ⟨a, w, h⟩ := he; ⟨a, w, hq _ _ _ (by intro hn; cases hn) h⟩)⟩
   | exact ⟨h2.1, RowsIn.mono h2.2 (fun _ _ he => hk _ _ he)⟩
   | exact ⟨h2.1, RoundIn.mono h2.2 (fun e w' he => by cases e <;> first | exact hk _ _ he | exact hq _ _ _ (by intro hn; cases hn) he | exact let ⟨a, w, h⟩ := he; ⟨a, w, hq _ _ _ (by intro hn; cases hn) h⟩)⟩
 | halt x w' => cases x <;> simp only [Oper.uponIn] at h2 ⊢ <;> first | exact hq _ _ _ (by intro hn; cases hn) h2
def exaF (P : Program) (ro : Option Nat) (ops : Array Oper) (Q : Exit → St → Prop) : Nat → Array Bool → St → Prop
 | 0, L, s => Region.ready .any ops L = [] ∧ Q .normal s
 | f + 1, L, s => (Region.ready .any ops L = [] → Q .normal s) ∧ ∀ i ∈ Region.ready .any ops L, ∃ o, ops[i]? = some o ∧ EXL P ro ops [o] (zA (exaF P ro ops Q f (L.setIfInBounds i true)) fun _ _ => False) s
structure EXA (P : Program) (ro : Option Nat) (ops : Array Oper) (f : Nat) (L : Array Bool) (Q : Exit → St → Prop) (s : St) : Prop where
 run : exaF P ro ops Q f L s
theorem exaF_any {X : Fx} {M0 : Mem} : ∀ (f : Nat) (L : Array Bool) (M : Mem) (s : St) (a : Act) (w : World), M0.le M → Sim X M s a w → exaF P ro ops Q f L s → wpAnyIn (uP ro) 0 P .any ops (postA X M0 Q) f L a w
 | 0, L, M, s, a, w, hm0, hs, h => ⟨h.1, M, s, hm0, hs, h.2⟩
 | f + 1, L, M, s, a, w, hm0, hs, h => by
  refine ⟨fun h0 => ⟨M, s, hm0, hs, h.1 h0⟩, fun i hi => ?_⟩
  obtain ⟨o, ho, hx⟩ := h.2 i hi
  have h1 := hx.run X M a w hs
  unfold wpListIn at h1
  unfold wpOpIn
  simp only [ho]
  have key : ∀ a w, postA X M (zA (exaF P ro ops Q f (L.setIfInBounds i true)) fun _ _ => False) .normal a w → wpAnyIn (uP ro) 0 P .any ops (postA X M0 Q) f (L.setIfInBounds i true) a w := by
   rintro a2 w2 ⟨M2, s2, hm, hs2, hq⟩
   exact exaF_any f _ M2 s2 a2 w2 (Mem.le_trans hm0 hm) hs2 hq
  split
  ·rename_i hw
   rw [if_pos hw] at h1
   refine opIn_mono (fun a2 w2 hk => ?_) ?_ h1
   ·unfold wpListIn at hk; exact key a2 w2 hk
   ·rintro e a2 w2 hne ⟨M2, s2, hm, hs2, hq⟩
    cases e with
    | normal => exact absurd rfl hne
    | exit id => exact hq.elim
    | goto l => exact hq.elim
    | ret => exact hq.elim
    | panic ch => exact hq.elim
    | outgrown => exact hq.elim
  ·rename_i hw
   rw [if_neg hw] at h1
   exact ⟨h1.1, key _ _ (by have := h1.2; unfold wpListIn at this; exact this)⟩
theorem ex_all {id : Nat} {l : List Oper} {s : St} (hm : P.follows .mixedOrders = true) (h : EXA P ro l.toArray l.length (Array.replicate l.length false) Q s) : EX P ro (.region id l.toArray true) Q s := by
 refine ⟨fun X M a w hs => ?_⟩
 refine wpIn_region_any hm ?_
 rw [List.size_toArray]
 exact exaF_any (M0 := M) _ _ M s a _ (Mem.le_refl M) ⟨hs.good.drew, hs.size, hs.defs, hs.env⟩ h.run
variable {f : Nat} {L : Array Bool} {s : St} {o o2 o3 : Oper} {i j k : Nat}
abbrev afterA (P : Program) (ro : Option Nat) (ops : Array Oper) (f : Nat) (L : Array Bool) (Q : Exit → St → Prop) (i : Nat) : Exit → St → Prop := zA (EXA P ro ops f (L.setIfInBounds i true) Q) fun _ _ => False
theorem exl_unfold {l : List Oper} (h : EXL P ro ops l (afterA P ro ops f L Q i) s) : EXL P ro ops l (zA (exaF P ro ops Q f (L.setIfInBounds i true)) fun _ _ => False) s :=
 ⟨fun X M a w hs => wK (fun e a w hp => vB (Mem.le_refl M) (fun e s hq => by cases e <;> first | exact hq.run | exact hq) hp) _ _ _ (h.run X M a w hs)⟩
def rdyGo (L : List Bool) : List Oper → Nat → List Nat
 | [], _ => []
 | o :: r, i => if (!L.getD i true && (o.after.toList.all fun e => !Region.binds .any e || L.getD e.on false)) = true then i :: rdyGo L r (i + 1) else rdyGo L r (i + 1)
theorem getD_list {L : Array Bool} {i : Nat} {b : Bool} : L.getD i b = L.toList.getD i b := by
 rw [Array.getD_eq_getD_getElem?, List.getD_eq_getElem?_getD, Array.getElem?_toList]
theorem rdyGo_spec {L : Array Bool} {ops : Array Oper} : ∀ (r : List Oper) (k : Nat), (∀ j, r[j]? = ops[k + j]?) → rdyGo L.toList r k = (List.range' k r.length).filter fun i => !L.getD i true && ((ops[i]?).map (·.after.all fun e => !Region.binds .any e || L.getD e.on false)).getD false
 | [], k, _ => rfl
 | o :: r, k, h => by
  have h0 : ops[k]? = some o := by simpa using (h 0).symm
  have ih := rdyGo_spec (L := L) r (k + 1) fun j => by have := h (j + 1); simpa [Nat.add_assoc, Nat.add_comm 1 j] using this
  rw [rdyGo, ih, List.length_cons, List.range'_succ, List.filter_cons, h0, Option.map_some, Option.getD_some, getD_list, Array.all_toList]
  simp only [getD_list]
theorem rdy_eq {ops : Array Oper} {L : Array Bool} : Region.ready .any ops L = rdyGo L.toList ops.toList 0 := by
 rw [rdyGo_spec (ops := ops) _ 0 (fun j => by simp), Region.ready, List.range_eq_range']
 simp
theorem tJ (hr : rdyGo L.toList ops.toList 0 = []) (h : Q .normal s) : EXA P ro ops f L Q s := by
 rw [← rdy_eq] at hr
 refine ⟨?_⟩
 cases f with
 | zero => exact ⟨hr, h⟩
 | succ f => exact ⟨fun _ => h, fun i hi => by rw [hr] at hi; cases hi⟩
theorem xA (hr : rdyGo L.toList ops.toList 0 = [i]) (ho : ops[i]? = some o) (h : EXL P ro ops [o] (afterA P ro ops f L Q i) s) : EXA P ro ops (f + 1) L Q s := by
 rw [← rdy_eq] at hr
 refine ⟨fun h0 => (by rw [hr] at h0; cases h0), fun x hx => ?_⟩
 rw [hr, List.mem_singleton] at hx
 subst hx
 exact ⟨o, ho, exl_unfold h⟩
theorem exa_two (hr : rdyGo L.toList ops.toList 0 = [i, j]) (ho : ops[i]? = some o) (ho2 : ops[j]? = some o2) (h : EXL P ro ops [o] (afterA P ro ops f L Q i) s) (h2 : EXL P ro ops [o2] (afterA P ro ops f L Q j) s) : EXA P ro ops (f + 1) L Q s := by
 rw [← rdy_eq] at hr
 refine ⟨fun h0 => (by rw [hr] at h0; cases h0), fun x hx => ?_⟩
 rw [hr] at hx
 simp only [List.mem_cons, List.not_mem_nil, or_false] at hx
 rcases hx with rfl | rfl
 ·exact ⟨o, ho, exl_unfold h⟩
 ·exact ⟨o2, ho2, exl_unfold h2⟩
theorem exa_three (hr : rdyGo L.toList ops.toList 0 = [i, j, k]) (ho : ops[i]? = some o) (ho2 : ops[j]? = some o2) (ho3 : ops[k]? = some o3) (h : EXL P ro ops [o] (afterA P ro ops f L Q i) s) (h2 : EXL P ro ops [o2] (afterA P ro ops f L Q j) s) (h3 : EXL P ro ops [o3] (afterA P ro ops f L Q k) s) : EXA P ro ops (f + 1) L Q s := by
 rw [← rdy_eq] at hr
 refine ⟨fun h0 => (by rw [hr] at h0; cases h0), fun x hx => ?_⟩
 rw [hr] at hx
 simp only [List.mem_cons, List.not_mem_nil, or_false] at hx
 rcases hx with rfl | rfl | rfl
 ·exact ⟨o, ho, exl_unfold h⟩
 ·exact ⟨o2, ho2, exl_unfold h2⟩
 ·exact ⟨o3, ho3, exl_unfold h3⟩
end
section
variable {P : Program} {ro : Option Nat} {kp : Ent → Prop} {ops : Array Oper} {F : Env → List Ent → Prop} {f : Nat} {L : Array Bool} {env : Env} {σ : List Ent} {o o2 o3 : Oper} {i j k : Nat}
structure DRF (P : Program) (ro : Option Nat) (kp : Ent → Prop) (ef : List Nat) (ops : Array Oper) (F : Env → List Ent → Prop) (f : Nat) (L : Array Bool) (env : Env) (σ : List Ent) : Prop where
 run : anyF P ro (AddsK kp) ops (fun e σ => ∃ env, lk env = e ∧ F env σ) f L (lk env) σ
structure DRS (P : Program) (ro : Option Nat) (kp : Ent → Prop) (o : Oper) (env : Env) (σ : List Ent) (K : Env → List Ent → Prop) : Prop where
 run : o.guard = none ∧ ∃ R, GOp P ro o env σ R ∧ ∀ v σ', R v σ' → AddsK kp σ σ' ∧ K (put o.dst v env) σ'
structure DRV (P : Program) (ro : Option Nat) (kp : Ent → Prop) (ops : Array Oper) (o : Oper) (env : Env) (σ : List Ent) (K : Env → List Ent → Prop) : Prop where
 run : ∃ v, Yld P ro (AddsK kp) ops o v (lk env) σ ∧ K (put o.dst v env) σ
theorem wA {id : Nat} {l : List Oper} {mk : List Nat} {n : Nat} {Q : Exit → St → Prop} (kp : Ent → Prop) (ef : List Nat) (m : Nat) (hm : P.follows .mixedOrders = true) (hB : vZ [] l m = true) (hd : (l.all fun o => uN o.dst n) = true)
  (h : DRF P ro kp ef (l.take m).toArray (fun env σ => EXL P ro l.toArray (l.drop m) Q ⟨env, σ, mk, n⟩) m (Array.replicate m false) env σ) : EX P ro (.region id l.toArray true) Q ⟨env, σ, mk, n⟩ :=
 ex_drawAF kp m hm hB hd ⟨h.run⟩
theorem ex_joinT {x y : Code} {Q : Exit → St → Prop} {s : St} {α : Type} (f : α → St) (h1 : EX P ro x (zA (fun s => ∃ a σ', s.σ.Perm σ' ∧ St.le ⟨s.env, σ', s.marks, s.n⟩ (f a)) Q) s) (h2 : ∀ a, EX P ro y Q (f a)) : EX P ro x (zA (EX P ro y Q) Q) s :=
 ex_mono h1 fun e s h => by
  cases e with
  | normal => obtain ⟨a, σ', hp, ha⟩ := h; exact ex_perm hp (qD ha (h2 a))
  | exit id => exact h
  | goto l => exact h
  | ret => exact h
  | panic ch => exact h
  | outgrown => exact h
def nextV (ef : List Nat) : List Nat → Option Nat
 | [] => none
 | i :: r => if ef.contains i then nextV ef r else some i
theorem nextV_mem {ef : List Nat} : ∀ {l : List Nat} {i : Nat}, nextV ef l = some i → i ∈ l
 | [], _, h => by cases h
 | a :: r, i, h => by
  unfold nextV at h
  split at h
  ·exact List.mem_cons_of_mem _ (nextV_mem h)
  ·cases h; exact List.mem_cons_self
theorem drf_val {ef : List Nat} (hn : nextV ef (rdyGo L.toList ops.toList 0) = some i) (ho : ops[i]? = some o) (hf : Region.free .any ops L i = true) (h : DRV P ro kp ops o env σ fun env σ => DRF P ro kp ef ops F f (L.setIfInBounds i true) env σ) : DRF P ro kp ef ops F (f + 1) L env σ := by
 obtain ⟨v, hy, hk⟩ := h.run
 refine ⟨anyF_first (AddsK.refl) (fun _ _ _ => AddsK.trans) ho f L _ _ (Region.free_spec ho hf) (by rw [rdy_eq]; exact nextV_mem hn) hy ?_⟩
 rw [putF_lk]; exact hk.run
theorem step_of {ef : List Nat} (hs : DRS P ro kp o env σ fun env σ => DRF P ro kp ef ops F f (L.setIfInBounds i true) env σ) (ho : ops[i]? = some o) : stepF P ro (AddsK kp) ops i (anyF P ro (AddsK kp) ops (fun e σ => ∃ env, lk env = e ∧ F env σ) f (L.setIfInBounds i true)) (lk env) σ := by
 obtain ⟨hg, R, hR, hk⟩ := hs.run
 unfold stepF
 simp only [ho]
 exact .inr ⟨gF_none hg, .inr ⟨R, gopF_iff hR, fun v σ' hr => ⟨(hk v σ' hr).1, by rw [putF_lk]; exact (hk v σ' hr).2.run⟩⟩⟩
theorem wQ {ef : List Nat} (hr : rdyGo L.toList ops.toList 0 = []) (h : F env σ) : DRF P ro kp ef ops F f L env σ := by
 rw [← rdy_eq] at hr
 refine ⟨?_⟩
 cases f with
 | zero => exact ⟨hr, _, rfl, h⟩
 | succ f => exact ⟨fun _ => ⟨_, rfl, h⟩, fun i hi => by rw [hr] at hi; cases hi⟩
theorem yP {ef : List Nat} (hr : rdyGo L.toList ops.toList 0 = [i]) (ho : ops[i]? = some o) (h : DRS P ro kp o env σ fun env σ => DRF P ro kp ef ops F f (L.setIfInBounds i true) env σ) : DRF P ro kp ef ops F (f + 1) L env σ := by
 rw [← rdy_eq] at hr
 refine ⟨fun h0 => (by rw [hr] at h0; cases h0), fun x hx => ?_⟩
 rw [hr, List.mem_singleton] at hx
 subst hx
 exact step_of h ho
theorem drf_two {ef : List Nat} (hr : rdyGo L.toList ops.toList 0 = [i, j]) (ho : ops[i]? = some o) (ho2 : ops[j]? = some o2) (h : DRS P ro kp o env σ fun env σ => DRF P ro kp ef ops F f (L.setIfInBounds i true) env σ) (h2 : DRS P ro kp o2 env σ fun env σ => DRF P ro kp ef ops F f (L.setIfInBounds j true) env σ) : DRF P ro kp ef ops F (f + 1) L env σ := by
 rw [← rdy_eq] at hr
 refine ⟨fun h0 => (by rw [hr] at h0; cases h0), fun x hx => ?_⟩
 rw [hr] at hx
 simp only [List.mem_cons, List.not_mem_nil, or_false] at hx
 rcases hx with rfl | rfl
 ·exact step_of h ho
 ·exact step_of h2 ho2
variable {K : Env → List Ent → Prop}
theorem drv_core {v : AV} {d : Nat} (hd : o.dst = some d) (hy : Yld P ro (AddsK kp) ops o v (lk env) σ) (h : K ((d, v) :: env) σ) : DRV P ro kp ops o env σ K := ⟨v, hy, by rw [put_some hd]; exact h⟩
theorem yS {v : AV} {d : Nat} (hgd : o.guard = none) (hd : o.dst = some d) (hg : ∀ σ', AddsK kp σ σ' → GOp P ro o env σ' (Is v σ')) (h : K ((d, v) :: env) σ) : DRV P ro kp ops o env σ K :=
 drv_core hd (.inl ⟨gF_none hgd, fun σ' hl => gopF_iff (hg σ' hl)⟩) h
theorem drs_eff {R : AV → List Ent → Prop} {d : Nat} (hgd : o.guard = none) (hd : o.dst = some d) (hg : GOp P ro o env σ R) (h : ∀ v σ', R v σ' → AddsK kp σ σ' ∧ K ((d, v) :: env) σ') : DRS P ro kp o env σ K :=
 ⟨hgd, R, hg, fun v σ' hr => ⟨(h v σ' hr).1, by rw [put_some hd]; exact (h v σ' hr).2⟩⟩
theorem wF {v : AV} {σ' : List Ent} (hgd : o.guard = none) (hd : o.dst = none) (hg : GOp P ro o env σ (Is v σ')) (ha : AddsK kp σ σ') (h : K env σ') : DRS P ro kp o env σ K :=
 ⟨hgd, _, hg, fun u τ hr => by cases hr; exact ⟨ha, by rw [hd]; exact h⟩⟩
theorem uL {v : AV} {d : Nat} (hgd : o.guard = none) (hd : o.dst = some d) (hg : GOp P ro o env σ (Is v σ)) (h : K ((d, v) :: env) σ) : DRS P ro kp o env σ K :=
 drs_eff hgd hd hg (by rintro _ _ ⟨⟩; exact ⟨AddsK.refl _, h⟩)
theorem vC {l : List AV} {t : TypeId} {d : Nat} (hgd : o.guard = none) (hd : o.dst = some d) (hg : GOp P ro o env σ (Boxed l t σ)) (h : ∀ b, K ((d, .ptr b 0) :: env) (.cells b l t :: σ)) : DRS P ro kp o env σ K :=
 drs_eff hgd hd hg (by rintro _ _ ⟨b⟩; exact ⟨AddsK.cons _ _, h b⟩)
theorem drs_row {l : List (List AV)} {t : TypeId} {sz d : Nat} (hgd : o.guard = none) (hd : o.dst = some d) (hg : GOp P ro o env σ (Rowed t sz l σ)) (h : ∀ v, K ((d, .slv v) :: env) (.row v t sz l :: σ)) : DRS P ro kp o env σ K :=
 drs_eff hgd hd hg (by rintro _ _ ⟨b⟩; exact ⟨AddsK.cons _ _, h b⟩)
end
section
variable {P : Program} {ro : Option Nat} {Q : Exit → St → Prop} {ops : Array Oper} {rest : List Oper} {env : Env} {σ : List Ent} {mk : List Nat} {n : Nat} {dst : Option Tmp} {ty : TypeId} {pos : String} {after : Array Edge} {guard : Option (Nat × Bool)} {kp : Ent → Prop} {ef : List Nat} {F : Env → List Ent → Prop} {k : Nat} {K : Env → List Ent → Prop}
theorem zR {d : Nat} {x : Operand} {v : AV} (h : EXL P ro ops rest Q ⟨(d, v) :: env, σ, mk, n⟩) (a : guard = none := by rfl) (b : dst = some d := by rfl) (c : Nat.blt d n = true := by rfl) (e : xP env x = some v := by rfl) : EXL P ro ops (⟨dst, .move x, ty, pos, after, guard⟩ :: rest) Q ⟨env, σ, mk, n⟩ := zU a b c (g_move e) h
theorem uZ {d : Nat} {s f off : Nat} {x : Operand} {p q0 : AV} (h : EXL P ro ops rest Q ⟨(d, q0) :: env, σ, mk, n⟩) (a : guard = none := by rfl) (b : dst = some d := by rfl) (c : Nat.blt d n = true := by rfl) (e1 : offOf P s f = some off := by rfl) (e2 : xP env x = some p := by rfl) (e3 : p.plus off = some q0 := by rfl) : EXL P ro ops (⟨dst, .fieldAddr s x f, ty, pos, after, guard⟩ :: rest) Q ⟨env, σ, mk, n⟩ := zU a b c (qX e1 e2 e3) h
theorem xLd {d : Nat} {t : TypeId} {x : Operand} {p u : AV} {sz : Nat} (h : EXL P ro ops rest Q ⟨(d, u) :: env, σ, mk, n⟩) (a : guard = none := by rfl) (b : dst = some d := by rfl) (c : Nat.blt d n = true := by rfl) (e1 : tyOf P t = some (false, sz) := by rfl) (e3 : xP env x = some p := by rfl) (e4 : Pts σ p 0 u := by first | exact .e rfl | exact .p (by (repeat first | exact q_h | apply q_t | assumption); done) rfl | exact .k0 (by (repeat first | exact q_h | apply q_t | assumption); done) (by first | assumption | exact xD (by assumption) | exact get_set (by first | assumption | exact xD (by assumption))) rfl | exact .k1 (by (repeat first | exact q_h | apply q_t | assumption); done) (by first | assumption | exact xD (by assumption) | exact get_set (by first | assumption | exact xD (by assumption))) rfl | exact .r (by (repeat first | exact q_h | apply q_t | assumption); done) rfl) : EXL P ro ops (⟨dst, .load t x, ty, pos, after, guard⟩ :: rest) Q ⟨env, σ, mk, n⟩ := zU a b c (g_load1 e1 e3 e4) h
theorem yA {d : Nat} {t : TypeId} {x : Operand} {p : AV} {sz : Nat} {L : List AV} (h : EXL P ro ops rest Q ⟨(d, .agg L) :: env, σ, mk, n⟩) (a : guard = none := by rfl) (b : dst = some d := by rfl) (c : Nat.blt d n = true := by rfl) (e1 : tyOf P t = some (true, sz) := by rfl) (e2 : 0 < sz := by decide) (e3 : xP env x = some p := by rfl) (e4 : Slab σ p sz L := by first | exact .e rfl rfl | exact .p (by (repeat first | exact q_h | apply q_t | assumption); done) rfl rfl | exact .k0 (by (repeat first | exact q_h | apply q_t | assumption); done) (by first | assumption | exact xD (by assumption) | exact get_set (by first | assumption | exact xD (by assumption))) rfl rfl | exact .r (by (repeat first | exact q_h | apply q_t | assumption); done) rfl rfl) : EXL P ro ops (⟨dst, .load t x, ty, pos, after, guard⟩ :: rest) Q ⟨env, σ, mk, n⟩ := zU a b c (wY e1 e2 e3 e4) h
theorem vG {d : Nat} {t e : TypeId} {x ix : Operand} {sz k0 : Nat} {L : List (List AV)} {kk : IntKind} {i : Int} {u : List AV} (h : EXL P ro ops rest Q ⟨(d, .eptr u 0) :: env, σ, mk, n⟩) (a : guard = none := by rfl) (b : dst = some d := by rfl) (c : Nat.blt d n = true := by rfl) (e1 : tB P t = some (e, sz) := by rfl) (e2 : xP env x = some (.dl sz L) := by rfl) (e3 : xP env ix = some (.int kk i) := by rfl) (e4 : i = (k0 : Int) := by first | assumption | rfl) (e5 : L[k0]? = some u := by first | assumption | exact xD (by assumption)) : EXL P ro ops (⟨dst, .indexAddr t x ix, ty, pos, after, guard⟩ :: rest) Q ⟨env, σ, mk, n⟩ := zU a b c (uG e1 e2 e3 e4 e5) h
theorem xY {d : Nat} {bo : BinOp} {x y : Operand} {t yt : TypeId} {ki : IntKind} {i j : Int} {e : Bool} (h : ∀ b, BV e b → EXL P ro ops rest Q ⟨(d, .bool b) :: env, σ, mk, n⟩) (a : guard = none := by rfl) (b : dst = some d := by rfl) (c : Nat.blt d n = true := by rfl) (e1 : xP env x = some (.int ki i) := by rfl) (e2 : xP env y = some (.int ki j) := by rfl) (e3 : opInt bo ki i j = some (.bool e) := by rfl) : EXL P ro ops (⟨dst, .binOp bo t x y yt, ty, pos, after, guard⟩ :: rest) Q ⟨env, σ, mk, n⟩ := yE a b c (wG e1 e2 e3) h
theorem qY {d : Nat} {x : Operand} {t : TypeId} {e : Bool} (h : ∀ b, BV (!e) b → EXL P ro ops rest Q ⟨(d, .bool b) :: env, σ, mk, n⟩) (a : guard = none := by rfl) (b : dst = some d := by rfl) (c : Nat.blt d n = true := by rfl) (e1 : xP env x = some (.bool e) := by rfl) : EXL P ro ops (⟨dst, .unOp .not t x, ty, pos, after, guard⟩ :: rest) Q ⟨env, σ, mk, n⟩ := yE a b c (tD e1) h
theorem vN {d : Nat} {x : Operand} {v : AV} {q want : Bool} (h : EXL P ro ops rest Q ⟨(d, v) :: env, σ, mk, n⟩) (a : wX ops ⟨dst, .move x, ty, pos, after, guard⟩ env = some (.bool q, want) := by rfl) (a2 : q = want := by rfl) (b : dst = some d := by rfl) (c : Nat.blt d n = true := by rfl) (e : xP env x = some v := by rfl) : EXL P ro ops (⟨dst, .move x, ty, pos, after, guard⟩ :: rest) Q ⟨env, σ, mk, n⟩ := yZ a a2 b c (g_move e) h
theorem yFa {d : Nat} {s f off : Nat} {x : Operand} {p q0 : AV} {q want : Bool} (h : EXL P ro ops rest Q ⟨(d, q0) :: env, σ, mk, n⟩) (a : wX ops ⟨dst, .fieldAddr s x f, ty, pos, after, guard⟩ env = some (.bool q, want) := by rfl) (a2 : q = want := by rfl) (b : dst = some d := by rfl) (c : Nat.blt d n = true := by rfl) (e1 : offOf P s f = some off := by rfl) (e2 : xP env x = some p := by rfl) (e3 : p.plus off = some q0 := by rfl) : EXL P ro ops (⟨dst, .fieldAddr s x f, ty, pos, after, guard⟩ :: rest) Q ⟨env, σ, mk, n⟩ := yZ a a2 b c (qX e1 e2 e3) h
theorem yLd {d : Nat} {t : TypeId} {x : Operand} {p u : AV} {sz : Nat} {q want : Bool} (h : EXL P ro ops rest Q ⟨(d, u) :: env, σ, mk, n⟩) (a : wX ops ⟨dst, .load t x, ty, pos, after, guard⟩ env = some (.bool q, want) := by rfl) (a2 : q = want := by rfl) (b : dst = some d := by rfl) (c : Nat.blt d n = true := by rfl) (e1 : tyOf P t = some (false, sz) := by rfl) (e3 : xP env x = some p := by rfl) (e4 : Pts σ p 0 u := by first | exact .e rfl | exact .p (by (repeat first | exact q_h | apply q_t | assumption); done) rfl | exact .k0 (by (repeat first | exact q_h | apply q_t | assumption); done) (by first | assumption | exact xD (by assumption) | exact get_set (by first | assumption | exact xD (by assumption))) rfl | exact .k1 (by (repeat first | exact q_h | apply q_t | assumption); done) (by first | assumption | exact xD (by assumption) | exact get_set (by first | assumption | exact xD (by assumption))) rfl | exact .r (by (repeat first | exact q_h | apply q_t | assumption); done) rfl) : EXL P ro ops (⟨dst, .load t x, ty, pos, after, guard⟩ :: rest) Q ⟨env, σ, mk, n⟩ := yZ a a2 b c (g_load1 e1 e3 e4) h
theorem yLa {d : Nat} {t : TypeId} {x : Operand} {p : AV} {sz : Nat} {L : List AV} {q want : Bool} (h : EXL P ro ops rest Q ⟨(d, .agg L) :: env, σ, mk, n⟩) (a : wX ops ⟨dst, .load t x, ty, pos, after, guard⟩ env = some (.bool q, want) := by rfl) (a2 : q = want := by rfl) (b : dst = some d := by rfl) (c : Nat.blt d n = true := by rfl) (e1 : tyOf P t = some (true, sz) := by rfl) (e2 : 0 < sz := by decide) (e3 : xP env x = some p := by rfl) (e4 : Slab σ p sz L := by first | exact .e rfl rfl | exact .p (by (repeat first | exact q_h | apply q_t | assumption); done) rfl rfl | exact .k0 (by (repeat first | exact q_h | apply q_t | assumption); done) (by first | assumption | exact xD (by assumption) | exact get_set (by first | assumption | exact xD (by assumption))) rfl rfl | exact .r (by (repeat first | exact q_h | apply q_t | assumption); done) rfl rfl) : EXL P ro ops (⟨dst, .load t x, ty, pos, after, guard⟩ :: rest) Q ⟨env, σ, mk, n⟩ := yZ a a2 b c (wY e1 e2 e3 e4) h
theorem yIx {d : Nat} {t e : TypeId} {x ix : Operand} {sz k0 : Nat} {L : List (List AV)} {kk : IntKind} {i : Int} {u : List AV} {q want : Bool} (h : EXL P ro ops rest Q ⟨(d, .eptr u 0) :: env, σ, mk, n⟩) (a : wX ops ⟨dst, .indexAddr t x ix, ty, pos, after, guard⟩ env = some (.bool q, want) := by rfl) (a2 : q = want := by rfl) (b : dst = some d := by rfl) (c : Nat.blt d n = true := by rfl) (e1 : tB P t = some (e, sz) := by rfl) (e2 : xP env x = some (.dl sz L) := by rfl) (e3 : xP env ix = some (.int kk i) := by rfl) (e4 : i = (k0 : Int) := by first | assumption | rfl) (e5 : L[k0]? = some u := by first | assumption | exact xD (by assumption)) : EXL P ro ops (⟨dst, .indexAddr t x ix, ty, pos, after, guard⟩ :: rest) Q ⟨env, σ, mk, n⟩ := yZ a a2 b c (uG e1 e2 e3 e4 e5) h
theorem wT {d : Nat} {bo : BinOp} {x y : Operand} {t yt : TypeId} {ki : IntKind} {i j : Int} {e : Bool} {q want : Bool} (h : ∀ b, BV e b → EXL P ro ops rest Q ⟨(d, .bool b) :: env, σ, mk, n⟩) (a : wX ops ⟨dst, .binOp bo t x y yt, ty, pos, after, guard⟩ env = some (.bool q, want) := by rfl) (a2 : q = want := by rfl) (b : dst = some d := by rfl) (c : Nat.blt d n = true := by rfl) (e1 : xP env x = some (.int ki i) := by rfl) (e2 : xP env y = some (.int ki j) := by rfl) (e3 : opInt bo ki i j = some (.bool e) := by rfl) : EXL P ro ops (⟨dst, .binOp bo t x y yt, ty, pos, after, guard⟩ :: rest) Q ⟨env, σ, mk, n⟩ := xR a a2 b c (wG e1 e2 e3) h
theorem yNo {d : Nat} {x : Operand} {t : TypeId} {e : Bool} {q want : Bool} (h : ∀ b, BV (!e) b → EXL P ro ops rest Q ⟨(d, .bool b) :: env, σ, mk, n⟩) (a : wX ops ⟨dst, .unOp .not t x, ty, pos, after, guard⟩ env = some (.bool q, want) := by rfl) (a2 : q = want := by rfl) (b : dst = some d := by rfl) (c : Nat.blt d n = true := by rfl) (e1 : xP env x = some (.bool e) := by rfl) : EXL P ro ops (⟨dst, .unOp .not t x, ty, pos, after, guard⟩ :: rest) Q ⟨env, σ, mk, n⟩ := xR a a2 b c (tD e1) h
theorem xU {d : Nat} {x : Operand} {v : AV} (h : WL P ro kp ef ops F (k + 1) rest ((d, v) :: env) σ) (a : guard = none := by rfl) (b1 : ef.contains k = false := by rfl) (b : dst = some d := by rfl) (e : xP env x = some v := by rfl) : WL P ro kp ef ops F k (⟨dst, .move x, ty, pos, after, guard⟩ :: rest) env σ := yY a b1 b (fun σ' hl => g_move e) h
theorem vR {d : Nat} {s f off : Nat} {x : Operand} {p q0 : AV} (h : WL P ro kp ef ops F (k + 1) rest ((d, q0) :: env) σ) (a : guard = none := by rfl) (b1 : ef.contains k = false := by rfl) (b : dst = some d := by rfl) (e1 : offOf P s f = some off := by rfl) (e2 : xP env x = some p := by rfl) (e3 : p.plus off = some q0 := by rfl) : WL P ro kp ef ops F k (⟨dst, .fieldAddr s x f, ty, pos, after, guard⟩ :: rest) env σ := yY a b1 b (fun σ' hl => qX e1 e2 e3) h
theorem vW {d : Nat} {t : TypeId} {x : Operand} {p u : AV} {sz : Nat} (h : WL P ro kp ef ops F (k + 1) rest ((d, u) :: env) σ) (a : guard = none := by rfl) (b1 : ef.contains k = false := by rfl) (b : dst = some d := by rfl) (e1 : tyOf P t = some (false, sz) := by rfl) (e3 : xP env x = some p := by rfl) (e4 : ∀ σ', AddsK kp σ σ' → Pts σ' p 0 u := by intro σ' hl; first | exact .e rfl | exact .p (hl _ (by first | exact True.intro | rfl | exact .inl rfl | exact .inr rfl | exact .inr (.inl rfl) | exact .inr (.inr rfl)) (by (repeat first | exact q_h | apply q_t | assumption); done)) rfl | exact .k0 (hl _ (by first | exact True.intro | rfl | exact .inl rfl | exact .inr rfl | exact .inr (.inl rfl) | exact .inr (.inr rfl)) (by (repeat first | exact q_h | apply q_t | assumption); done)) (by first | assumption | exact xD (by assumption) | exact get_set (by first | assumption | exact xD (by assumption))) rfl | exact .k1 (hl _ (by first | exact True.intro | rfl | exact .inl rfl | exact .inr rfl | exact .inr (.inl rfl) | exact .inr (.inr rfl)) (by (repeat first | exact q_h | apply q_t | assumption); done)) (by first | assumption | exact xD (by assumption) | exact get_set (by first | assumption | exact xD (by assumption))) rfl | exact .r (hl _ (by first | exact True.intro | rfl | exact .inl rfl | exact .inr rfl | exact .inr (.inl rfl) | exact .inr (.inr rfl)) (by (repeat first | exact q_h | apply q_t | assumption); done)) rfl) : WL P ro kp ef ops F k (⟨dst, .load t x, ty, pos, after, guard⟩ :: rest) env σ := yY a b1 b (fun σ' hl => g_load1 e1 e3 (e4 σ' hl)) h
theorem qB {d : Nat} {t : TypeId} {x : Operand} {p : AV} {sz : Nat} {L : List AV} (h : WL P ro kp ef ops F (k + 1) rest ((d, .agg L) :: env) σ) (a : guard = none := by rfl) (b1 : ef.contains k = false := by rfl) (b : dst = some d := by rfl) (e1 : tyOf P t = some (true, sz) := by rfl) (e2 : 0 < sz := by decide) (e3 : xP env x = some p := by rfl) (e4 : ∀ σ', AddsK kp σ σ' → Slab σ' p sz L := by intro σ' hl; first | exact .e rfl rfl | exact .p (hl _ (by first | exact True.intro | rfl | exact .inl rfl | exact .inr rfl | exact .inr (.inl rfl) | exact .inr (.inr rfl)) (by (repeat first | exact q_h | apply q_t | assumption); done)) rfl rfl | exact .k0 (hl _ (by first | exact True.intro | rfl | exact .inl rfl | exact .inr rfl | exact .inr (.inl rfl) | exact .inr (.inr rfl)) (by (repeat first | exact q_h | apply q_t | assumption); done)) (by first | assumption | exact xD (by assumption) | exact get_set (by first | assumption | exact xD (by assumption))) rfl rfl | exact .r (hl _ (by first | exact True.intro | rfl | exact .inl rfl | exact .inr rfl | exact .inr (.inl rfl) | exact .inr (.inr rfl)) (by (repeat first | exact q_h | apply q_t | assumption); done)) rfl rfl) : WL P ro kp ef ops F k (⟨dst, .load t x, ty, pos, after, guard⟩ :: rest) env σ := yY a b1 b (fun σ' hl => wY e1 e2 e3 (e4 σ' hl)) h
theorem wIx {d : Nat} {t e : TypeId} {x ix : Operand} {sz k0 : Nat} {L : List (List AV)} {kk : IntKind} {i : Int} {u : List AV} (h : WL P ro kp ef ops F (k + 1) rest ((d, .eptr u 0) :: env) σ) (a : guard = none := by rfl) (b1 : ef.contains k = false := by rfl) (b : dst = some d := by rfl) (e1 : tB P t = some (e, sz) := by rfl) (e2 : xP env x = some (.dl sz L) := by rfl) (e3 : xP env ix = some (.int kk i) := by rfl) (e4 : i = (k0 : Int) := by first | assumption | rfl) (e5 : L[k0]? = some u := by first | assumption | exact xD (by assumption)) : WL P ro kp ef ops F k (⟨dst, .indexAddr t x ix, ty, pos, after, guard⟩ :: rest) env σ := yY a b1 b (fun σ' hl => uG e1 e2 e3 e4 e5) h
theorem wBi {d : Nat} {bo : BinOp} {x y : Operand} {t yt : TypeId} {ki : IntKind} {i j : Int} {e : Bool} (h : ∀ b, BV e b → WL P ro kp ef ops F (k + 1) rest ((d, .bool b) :: env) σ) (a : guard = none := by rfl) (b1 : ef.contains k = false := by rfl) (b : dst = some d := by rfl) (e1 : xP env x = some (.int ki i) := by rfl) (e2 : xP env y = some (.int ki j) := by rfl) (e3 : opInt bo ki i j = some (.bool e) := by rfl) : WL P ro kp ef ops F k (⟨dst, .binOp bo t x y yt, ty, pos, after, guard⟩ :: rest) env σ := vP a b1 b (fun σ' hl => wG e1 e2 e3) h
theorem uV {d : Nat} {x : Operand} {v : AV} {q want : Bool} (h : WL P ro kp ef ops F (k + 1) rest ((d, v) :: env) σ) (a : wX ops ⟨dst, .move x, ty, pos, after, guard⟩ env = some (.bool q, want) := by rfl) (a2 : q = want := by rfl) (b1 : ef.contains k = false := by rfl) (b : dst = some d := by rfl) (e : xP env x = some v := by rfl) : WL P ro kp ef ops F k (⟨dst, .move x, ty, pos, after, guard⟩ :: rest) env σ := xS a a2 b1 b (fun σ' hl => g_move e) h
theorem tX {d : Nat} {s f off : Nat} {x : Operand} {p q0 : AV} {q want : Bool} (h : WL P ro kp ef ops F (k + 1) rest ((d, q0) :: env) σ) (a : wX ops ⟨dst, .fieldAddr s x f, ty, pos, after, guard⟩ env = some (.bool q, want) := by rfl) (a2 : q = want := by rfl) (b1 : ef.contains k = false := by rfl) (b : dst = some d := by rfl) (e1 : offOf P s f = some off := by rfl) (e2 : xP env x = some p := by rfl) (e3 : p.plus off = some q0 := by rfl) : WL P ro kp ef ops F k (⟨dst, .fieldAddr s x f, ty, pos, after, guard⟩ :: rest) env σ := xS a a2 b1 b (fun σ' hl => qX e1 e2 e3) h
theorem uU {d : Nat} {t : TypeId} {x : Operand} {p u : AV} {sz : Nat} {q want : Bool} (h : WL P ro kp ef ops F (k + 1) rest ((d, u) :: env) σ) (a : wX ops ⟨dst, .load t x, ty, pos, after, guard⟩ env = some (.bool q, want) := by rfl) (a2 : q = want := by rfl) (b1 : ef.contains k = false := by rfl) (b : dst = some d := by rfl) (e1 : tyOf P t = some (false, sz) := by rfl) (e3 : xP env x = some p := by rfl) (e4 : ∀ σ', AddsK kp σ σ' → Pts σ' p 0 u := by intro σ' hl; first | exact .e rfl | exact .p (hl _ (by first | exact True.intro | rfl | exact .inl rfl | exact .inr rfl | exact .inr (.inl rfl) | exact .inr (.inr rfl)) (by (repeat first | exact q_h | apply q_t | assumption); done)) rfl | exact .k0 (hl _ (by first | exact True.intro | rfl | exact .inl rfl | exact .inr rfl | exact .inr (.inl rfl) | exact .inr (.inr rfl)) (by (repeat first | exact q_h | apply q_t | assumption); done)) (by first | assumption | exact xD (by assumption) | exact get_set (by first | assumption | exact xD (by assumption))) rfl | exact .k1 (hl _ (by first | exact True.intro | rfl | exact .inl rfl | exact .inr rfl | exact .inr (.inl rfl) | exact .inr (.inr rfl)) (by (repeat first | exact q_h | apply q_t | assumption); done)) (by first | assumption | exact xD (by assumption) | exact get_set (by first | assumption | exact xD (by assumption))) rfl | exact .r (hl _ (by first | exact True.intro | rfl | exact .inl rfl | exact .inr rfl | exact .inr (.inl rfl) | exact .inr (.inr rfl)) (by (repeat first | exact q_h | apply q_t | assumption); done)) rfl) : WL P ro kp ef ops F k (⟨dst, .load t x, ty, pos, after, guard⟩ :: rest) env σ := xS a a2 b1 b (fun σ' hl => g_load1 e1 e3 (e4 σ' hl)) h
theorem vLa {d : Nat} {t : TypeId} {x : Operand} {p : AV} {sz : Nat} {L : List AV} {q want : Bool} (h : WL P ro kp ef ops F (k + 1) rest ((d, .agg L) :: env) σ) (a : wX ops ⟨dst, .load t x, ty, pos, after, guard⟩ env = some (.bool q, want) := by rfl) (a2 : q = want := by rfl) (b1 : ef.contains k = false := by rfl) (b : dst = some d := by rfl) (e1 : tyOf P t = some (true, sz) := by rfl) (e2 : 0 < sz := by decide) (e3 : xP env x = some p := by rfl) (e4 : ∀ σ', AddsK kp σ σ' → Slab σ' p sz L := by intro σ' hl; first | exact .e rfl rfl | exact .p (hl _ (by first | exact True.intro | rfl | exact .inl rfl | exact .inr rfl | exact .inr (.inl rfl) | exact .inr (.inr rfl)) (by (repeat first | exact q_h | apply q_t | assumption); done)) rfl rfl | exact .k0 (hl _ (by first | exact True.intro | rfl | exact .inl rfl | exact .inr rfl | exact .inr (.inl rfl) | exact .inr (.inr rfl)) (by (repeat first | exact q_h | apply q_t | assumption); done)) (by first | assumption | exact xD (by assumption) | exact get_set (by first | assumption | exact xD (by assumption))) rfl rfl | exact .r (hl _ (by first | exact True.intro | rfl | exact .inl rfl | exact .inr rfl | exact .inr (.inl rfl) | exact .inr (.inr rfl)) (by (repeat first | exact q_h | apply q_t | assumption); done)) rfl rfl) : WL P ro kp ef ops F k (⟨dst, .load t x, ty, pos, after, guard⟩ :: rest) env σ := xS a a2 b1 b (fun σ' hl => wY e1 e2 e3 (e4 σ' hl)) h
theorem vIx {d : Nat} {t e : TypeId} {x ix : Operand} {sz k0 : Nat} {L : List (List AV)} {kk : IntKind} {i : Int} {u : List AV} {q want : Bool} (h : WL P ro kp ef ops F (k + 1) rest ((d, .eptr u 0) :: env) σ) (a : wX ops ⟨dst, .indexAddr t x ix, ty, pos, after, guard⟩ env = some (.bool q, want) := by rfl) (a2 : q = want := by rfl) (b1 : ef.contains k = false := by rfl) (b : dst = some d := by rfl) (e1 : tB P t = some (e, sz) := by rfl) (e2 : xP env x = some (.dl sz L) := by rfl) (e3 : xP env ix = some (.int kk i) := by rfl) (e4 : i = (k0 : Int) := by first | assumption | rfl) (e5 : L[k0]? = some u := by first | assumption | exact xD (by assumption)) : WL P ro kp ef ops F k (⟨dst, .indexAddr t x ix, ty, pos, after, guard⟩ :: rest) env σ := xS a a2 b1 b (fun σ' hl => uG e1 e2 e3 e4 e5) h
theorem tE {d : Nat} {bo : BinOp} {x y : Operand} {t yt : TypeId} {ki : IntKind} {i j : Int} {e : Bool} {q want : Bool} (h : ∀ b, BV e b → WL P ro kp ef ops F (k + 1) rest ((d, .bool b) :: env) σ) (a : wX ops ⟨dst, .binOp bo t x y yt, ty, pos, after, guard⟩ env = some (.bool q, want) := by rfl) (a2 : q = want := by rfl) (b1 : ef.contains k = false := by rfl) (b : dst = some d := by rfl) (e1 : xP env x = some (.int ki i) := by rfl) (e2 : xP env y = some (.int ki j) := by rfl) (e3 : opInt bo ki i j = some (.bool e) := by rfl) : WL P ro kp ef ops F k (⟨dst, .binOp bo t x y yt, ty, pos, after, guard⟩ :: rest) env σ := uX a a2 b1 b (fun σ' hl => wG e1 e2 e3) h
theorem tP {d : Nat} {x : Operand} {v : AV} (h : K ((d, v) :: env) σ) (a : guard = none := by rfl) (b : dst = some d := by rfl) (e : xP env x = some v := by rfl) : DRV P ro kp ops ⟨dst, .move x, ty, pos, after, guard⟩ env σ K := yS a b (fun σ' hl => g_move e) h
theorem tN {d : Nat} {s f off : Nat} {x : Operand} {p q0 : AV} (h : K ((d, q0) :: env) σ) (a : guard = none := by rfl) (b : dst = some d := by rfl) (e1 : offOf P s f = some off := by rfl) (e2 : xP env x = some p := by rfl) (e3 : p.plus off = some q0 := by rfl) : DRV P ro kp ops ⟨dst, .fieldAddr s x f, ty, pos, after, guard⟩ env σ K := yS a b (fun σ' hl => qX e1 e2 e3) h
theorem dLd {d : Nat} {t : TypeId} {x : Operand} {p u : AV} {sz : Nat} (h : K ((d, u) :: env) σ) (a : guard = none := by rfl) (b : dst = some d := by rfl) (e1 : tyOf P t = some (false, sz) := by rfl) (e3 : xP env x = some p := by rfl) (e4 : ∀ σ', AddsK kp σ σ' → Pts σ' p 0 u := by intro σ' hl; first | exact .e rfl | exact .p (hl _ (by first | exact True.intro | rfl | exact .inl rfl | exact .inr rfl | exact .inr (.inl rfl) | exact .inr (.inr rfl)) (by (repeat first | exact q_h | apply q_t | assumption); done)) rfl | exact .k0 (hl _ (by first | exact True.intro | rfl | exact .inl rfl | exact .inr rfl | exact .inr (.inl rfl) | exact .inr (.inr rfl)) (by (repeat first | exact q_h | apply q_t | assumption); done)) (by first | assumption | exact xD (by assumption) | exact get_set (by first | assumption | exact xD (by assumption))) rfl | exact .k1 (hl _ (by first | exact True.intro | rfl | exact .inl rfl | exact .inr rfl | exact .inr (.inl rfl) | exact .inr (.inr rfl)) (by (repeat first | exact q_h | apply q_t | assumption); done)) (by first | assumption | exact xD (by assumption) | exact get_set (by first | assumption | exact xD (by assumption))) rfl | exact .r (hl _ (by first | exact True.intro | rfl | exact .inl rfl | exact .inr rfl | exact .inr (.inl rfl) | exact .inr (.inr rfl)) (by (repeat first | exact q_h | apply q_t | assumption); done)) rfl) : DRV P ro kp ops ⟨dst, .load t x, ty, pos, after, guard⟩ env σ K := yS a b (fun σ' hl => g_load1 e1 e3 (e4 σ' hl)) h
theorem dLa {d : Nat} {t : TypeId} {x : Operand} {p : AV} {sz : Nat} {L : List AV} (h : K ((d, .agg L) :: env) σ) (a : guard = none := by rfl) (b : dst = some d := by rfl) (e1 : tyOf P t = some (true, sz) := by rfl) (e2 : 0 < sz := by decide) (e3 : xP env x = some p := by rfl) (e4 : ∀ σ', AddsK kp σ σ' → Slab σ' p sz L := by intro σ' hl; first | exact .e rfl rfl | exact .p (hl _ (by first | exact True.intro | rfl | exact .inl rfl | exact .inr rfl | exact .inr (.inl rfl) | exact .inr (.inr rfl)) (by (repeat first | exact q_h | apply q_t | assumption); done)) rfl rfl | exact .k0 (hl _ (by first | exact True.intro | rfl | exact .inl rfl | exact .inr rfl | exact .inr (.inl rfl) | exact .inr (.inr rfl)) (by (repeat first | exact q_h | apply q_t | assumption); done)) (by first | assumption | exact xD (by assumption) | exact get_set (by first | assumption | exact xD (by assumption))) rfl rfl | exact .r (hl _ (by first | exact True.intro | rfl | exact .inl rfl | exact .inr rfl | exact .inr (.inl rfl) | exact .inr (.inr rfl)) (by (repeat first | exact q_h | apply q_t | assumption); done)) rfl rfl) : DRV P ro kp ops ⟨dst, .load t x, ty, pos, after, guard⟩ env σ K := yS a b (fun σ' hl => wY e1 e2 e3 (e4 σ' hl)) h
theorem zP {d : Nat} {x : Operand} {v : AV} (h : EXL P ro ops rest Q ⟨(d, v) :: env, σ, mk, n⟩) (a : guard = none := by rfl) (b : dst = some d := by rfl) (c : Nat.blt d n = true := by rfl) (e : xP env x = some v := by rfl) : EXL P ro ops (⟨dst, .assign x, ty, pos, after, guard⟩ :: rest) Q ⟨env, σ, mk, n⟩ := zU a b c (g_assign e) h
theorem yB {d : Nat} {w x y : Operand} {q : Bool} {v : AV} (h : EXL P ro ops rest Q ⟨(d, v) :: env, σ, mk, n⟩) (a : guard = none := by rfl) (b : dst = some d := by rfl) (c : Nat.blt d n = true := by rfl) (e1 : xP env w = some (.bool q) := by rfl) (e2 : q = false := by rfl) (e3 : xP env y = some v := by rfl) : EXL P ro ops (⟨dst, .pick w x y, ty, pos, after, guard⟩ :: rest) Q ⟨env, σ, mk, n⟩ := zU a b c (g_pick_f e1 e2 e3) h
theorem xF {d : Nat} {w x y : Operand} {q : Bool} {v : AV} (h : EXL P ro ops rest Q ⟨(d, v) :: env, σ, mk, n⟩) (a : guard = none := by rfl) (b : dst = some d := by rfl) (c : Nat.blt d n = true := by rfl) (e1 : xP env w = some (.bool q) := by rfl) (e2 : q = true := by rfl) (e3 : xP env x = some v := by rfl) : EXL P ro ops (⟨dst, .pick w x y, ty, pos, after, guard⟩ :: rest) Q ⟨env, σ, mk, n⟩ := zU a b c (g_pick_t e1 e2 e3) h
theorem qW {d : Nat} {w x y : Operand} {q1 : Bool} {v : AV} (h : WL P ro kp ef ops F (k + 1) rest ((d, v) :: env) σ) (a : guard = none := by rfl) (b1 : ef.contains k = false := by rfl) (b : dst = some d := by rfl) (e1 : xP env w = some (.bool q1) := by rfl) (e2 : q1 = false := by rfl) (e3 : xP env y = some v := by rfl) : WL P ro kp ef ops F k (⟨dst, .pick w x y, ty, pos, after, guard⟩ :: rest) env σ := yY a b1 b (fun σ' hl => g_pick_f e1 e2 e3) h
theorem tZ {d : Nat} {w x y : Operand} {q1 : Bool} {v : AV} (h : WL P ro kp ef ops F (k + 1) rest ((d, v) :: env) σ) (a : guard = none := by rfl) (b1 : ef.contains k = false := by rfl) (b : dst = some d := by rfl) (e1 : xP env w = some (.bool q1) := by rfl) (e2 : q1 = true := by rfl) (e3 : xP env x = some v := by rfl) : WL P ro kp ef ops F k (⟨dst, .pick w x y, ty, pos, after, guard⟩ :: rest) env σ := yY a b1 b (fun σ' hl => g_pick_t e1 e2 e3) h
theorem wAd {d : Nat} {x y : Operand} {t yt : TypeId} {i j m : Int} (h : WL P ro kp ef ops F (k + 1) rest ((d, .int .i64 m) :: env) σ) (a : guard = none := by rfl) (b1 : ef.contains k = false := by rfl) (b : dst = some d := by rfl) (e1 : xP env x = some (.int .i64 i) := by rfl) (e2 : xP env y = some (.int .i64 j) := by rfl) (e3 : i + j = m := by rfl) (e4 : -9223372036854775808 ≤ m ∧ m ≤ 9223372036854775807 := by exact ⟨by omega, by omega⟩) : WL P ro kp ef ops F k (⟨dst, .binOp .add t x y yt, ty, pos, after, guard⟩ :: rest) env σ := yY a b1 b (fun σ' hl => g_add e1 e2 e3 e4) h
theorem wSu {d : Nat} {x y : Operand} {t yt : TypeId} {i j m : Int} (h : WL P ro kp ef ops F (k + 1) rest ((d, .int .i64 m) :: env) σ) (a : guard = none := by rfl) (b1 : ef.contains k = false := by rfl) (b : dst = some d := by rfl) (e1 : xP env x = some (.int .i64 i) := by rfl) (e2 : xP env y = some (.int .i64 j) := by rfl) (e3 : i - j = m := by rfl) (e4 : -9223372036854775808 ≤ m ∧ m ≤ 9223372036854775807 := by exact ⟨by omega, by omega⟩) : WL P ro kp ef ops F k (⟨dst, .binOp .sub t x y yt, ty, pos, after, guard⟩ :: rest) env σ := yY a b1 b (fun σ' hl => g_sub e1 e2 e3 e4) h
theorem vPf {d : Nat} {w x y : Operand} {q1 : Bool} {v : AV} {q want : Bool} (h : WL P ro kp ef ops F (k + 1) rest ((d, v) :: env) σ) (a : wX ops ⟨dst, .pick w x y, ty, pos, after, guard⟩ env = some (.bool q, want) := by rfl) (a2 : q = want := by rfl) (b1 : ef.contains k = false := by rfl) (b : dst = some d := by rfl) (e1 : xP env w = some (.bool q1) := by rfl) (e2 : q1 = false := by rfl) (e3 : xP env y = some v := by rfl) : WL P ro kp ef ops F k (⟨dst, .pick w x y, ty, pos, after, guard⟩ :: rest) env σ := xS a a2 b1 b (fun σ' hl => g_pick_f e1 e2 e3) h
theorem vPt {d : Nat} {w x y : Operand} {q1 : Bool} {v : AV} {q want : Bool} (h : WL P ro kp ef ops F (k + 1) rest ((d, v) :: env) σ) (a : wX ops ⟨dst, .pick w x y, ty, pos, after, guard⟩ env = some (.bool q, want) := by rfl) (a2 : q = want := by rfl) (b1 : ef.contains k = false := by rfl) (b : dst = some d := by rfl) (e1 : xP env w = some (.bool q1) := by rfl) (e2 : q1 = true := by rfl) (e3 : xP env x = some v := by rfl) : WL P ro kp ef ops F k (⟨dst, .pick w x y, ty, pos, after, guard⟩ :: rest) env σ := xS a a2 b1 b (fun σ' hl => g_pick_t e1 e2 e3) h
theorem vAd {d : Nat} {x y : Operand} {t yt : TypeId} {i j m : Int} {q want : Bool} (h : WL P ro kp ef ops F (k + 1) rest ((d, .int .i64 m) :: env) σ) (a : wX ops ⟨dst, .binOp .add t x y yt, ty, pos, after, guard⟩ env = some (.bool q, want) := by rfl) (a2 : q = want := by rfl) (b1 : ef.contains k = false := by rfl) (b : dst = some d := by rfl) (e1 : xP env x = some (.int .i64 i) := by rfl) (e2 : xP env y = some (.int .i64 j) := by rfl) (e3 : i + j = m := by rfl) (e4 : -9223372036854775808 ≤ m ∧ m ≤ 9223372036854775807 := by exact ⟨by omega, by omega⟩) : WL P ro kp ef ops F k (⟨dst, .binOp .add t x y yt, ty, pos, after, guard⟩ :: rest) env σ := xS a a2 b1 b (fun σ' hl => g_add e1 e2 e3 e4) h
theorem vSu {d : Nat} {x y : Operand} {t yt : TypeId} {i j m : Int} {q want : Bool} (h : WL P ro kp ef ops F (k + 1) rest ((d, .int .i64 m) :: env) σ) (a : wX ops ⟨dst, .binOp .sub t x y yt, ty, pos, after, guard⟩ env = some (.bool q, want) := by rfl) (a2 : q = want := by rfl) (b1 : ef.contains k = false := by rfl) (b : dst = some d := by rfl) (e1 : xP env x = some (.int .i64 i) := by rfl) (e2 : xP env y = some (.int .i64 j) := by rfl) (e3 : i - j = m := by rfl) (e4 : -9223372036854775808 ≤ m ∧ m ≤ 9223372036854775807 := by exact ⟨by omega, by omega⟩) : WL P ro kp ef ops F k (⟨dst, .binOp .sub t x y yt, ty, pos, after, guard⟩ :: rest) env σ := xS a a2 b1 b (fun σ' hl => g_sub e1 e2 e3 e4) h
theorem yPf {d : Nat} {w x y : Operand} {q1 : Bool} {v : AV} {q want : Bool} (h : EXL P ro ops rest Q ⟨(d, v) :: env, σ, mk, n⟩) (a : wX ops ⟨dst, .pick w x y, ty, pos, after, guard⟩ env = some (.bool q, want) := by rfl) (a2 : q = want := by rfl) (b : dst = some d := by rfl) (c : Nat.blt d n = true := by rfl) (e1 : xP env w = some (.bool q1) := by rfl) (e2 : q1 = false := by rfl) (e3 : xP env y = some v := by rfl) : EXL P ro ops (⟨dst, .pick w x y, ty, pos, after, guard⟩ :: rest) Q ⟨env, σ, mk, n⟩ := yZ a a2 b c (g_pick_f e1 e2 e3) h
theorem yPt {d : Nat} {w x y : Operand} {q1 : Bool} {v : AV} {q want : Bool} (h : EXL P ro ops rest Q ⟨(d, v) :: env, σ, mk, n⟩) (a : wX ops ⟨dst, .pick w x y, ty, pos, after, guard⟩ env = some (.bool q, want) := by rfl) (a2 : q = want := by rfl) (b : dst = some d := by rfl) (c : Nat.blt d n = true := by rfl) (e1 : xP env w = some (.bool q1) := by rfl) (e2 : q1 = true := by rfl) (e3 : xP env x = some v := by rfl) : EXL P ro ops (⟨dst, .pick w x y, ty, pos, after, guard⟩ :: rest) Q ⟨env, σ, mk, n⟩ := yZ a a2 b c (g_pick_t e1 e2 e3) h
theorem yAd {d : Nat} {x y : Operand} {t yt : TypeId} {i j m : Int} {q want : Bool} (h : EXL P ro ops rest Q ⟨(d, .int .i64 m) :: env, σ, mk, n⟩) (a : wX ops ⟨dst, .binOp .add t x y yt, ty, pos, after, guard⟩ env = some (.bool q, want) := by rfl) (a2 : q = want := by rfl) (b : dst = some d := by rfl) (c : Nat.blt d n = true := by rfl) (e1 : xP env x = some (.int .i64 i) := by rfl) (e2 : xP env y = some (.int .i64 j) := by rfl) (e3 : i + j = m := by rfl) (e4 : -9223372036854775808 ≤ m ∧ m ≤ 9223372036854775807 := by exact ⟨by omega, by omega⟩) : EXL P ro ops (⟨dst, .binOp .add t x y yt, ty, pos, after, guard⟩ :: rest) Q ⟨env, σ, mk, n⟩ := yZ a a2 b c (g_add e1 e2 e3 e4) h
theorem ySu {d : Nat} {x y : Operand} {t yt : TypeId} {i j m : Int} {q want : Bool} (h : EXL P ro ops rest Q ⟨(d, .int .i64 m) :: env, σ, mk, n⟩) (a : wX ops ⟨dst, .binOp .sub t x y yt, ty, pos, after, guard⟩ env = some (.bool q, want) := by rfl) (a2 : q = want := by rfl) (b : dst = some d := by rfl) (c : Nat.blt d n = true := by rfl) (e1 : xP env x = some (.int .i64 i) := by rfl) (e2 : xP env y = some (.int .i64 j) := by rfl) (e3 : i - j = m := by rfl) (e4 : -9223372036854775808 ≤ m ∧ m ≤ 9223372036854775807 := by exact ⟨by omega, by omega⟩) : EXL P ro ops (⟨dst, .binOp .sub t x y yt, ty, pos, after, guard⟩ :: rest) Q ⟨env, σ, mk, n⟩ := yZ a a2 b c (g_sub e1 e2 e3 e4) h
theorem wAs {d : Nat} {x : Operand} {v : AV} (h : WL P ro kp ef ops F (k + 1) rest ((d, v) :: env) σ) (a : guard = none := by rfl) (b1 : ef.contains k = false := by rfl) (b : dst = some d := by rfl) (e : xP env x = some v := by rfl) : WL P ro kp ef ops F k (⟨dst, .assign x, ty, pos, after, guard⟩ :: rest) env σ := yY a b1 b (fun σ' hl => g_assign e) h
theorem uA {d : Nat} {t : TypeId} {parts : Array (Nat × Operand)} {pl : List (Nat × Nat)} {z L : List AV} {l : List (Nat × AV)} (h : EXL P ro ops rest Q ⟨(d, .agg L) :: env, σ, mk, n⟩) (a : guard = none := by rfl) (b : dst = some d := by rfl) (c : Nat.blt d n = true := by rfl) (e1 : placesOf P t = some pl := by rfl) (e2 : zeroA P t = some z := by rfl) (e3 : partsA env parts.toList = some l := by rfl) (e4 : fillA (pl[·]?) z l = some L := by rfl) : EXL P ro ops (⟨dst, .build t parts, ty, pos, after, guard⟩ :: rest) Q ⟨env, σ, mk, n⟩ := zU a b c (tK e1 e2 e3 e4) h
theorem tG {d : Nat} {x : Operand} {ix : Nat} {l : List AV} {v : AV} (h : EXL P ro ops rest Q ⟨(d, v) :: env, σ, mk, n⟩) (a : guard = none := by rfl) (b : dst = some d := by rfl) (c : Nat.blt d n = true := by rfl) (e1 : xP env x = some (.tup l) := by rfl) (e2 : l[ix]? = some v := by rfl) : EXL P ro ops (⟨dst, .extract x ix, ty, pos, after, guard⟩ :: rest) Q ⟨env, σ, mk, n⟩ := zU a b c (uF e1 e2) h
theorem dEx {d : Nat} {x : Operand} {ix : Nat} {l : List AV} {v : AV} (h : K ((d, v) :: env) σ) (a : guard = none := by rfl) (b : dst = some d := by rfl) (e1 : xP env x = some (.tup l) := by rfl) (e2 : l[ix]? = some v := by rfl) : DRV P ro kp ops ⟨dst, .extract x ix, ty, pos, after, guard⟩ env σ K := yS a b (fun σ' hl => uF e1 e2) h
theorem vX {d : Nat} {x y : Operand} {t yt : TypeId} {i j m : Int} (h : EXL P ro ops rest Q ⟨(d, .int .i64 m) :: env, σ, mk, n⟩) (a : guard = none := by rfl) (b : dst = some d := by rfl) (c : Nat.blt d n = true := by rfl) (e1 : xP env x = some (.int .i64 i) := by rfl) (e2 : xP env y = some (.int .i64 j) := by rfl) (e3 : i + j = m := by rfl) (e4 : -9223372036854775808 ≤ m ∧ m ≤ 9223372036854775807 := by exact ⟨by omega, by omega⟩) : EXL P ro ops (⟨dst, .binOp .add t x y yt, ty, pos, after, guard⟩ :: rest) Q ⟨env, σ, mk, n⟩ := zU a b c (g_add e1 e2 e3 e4) h
theorem xSu {d : Nat} {x y : Operand} {t yt : TypeId} {i j m : Int} (h : EXL P ro ops rest Q ⟨(d, .int .i64 m) :: env, σ, mk, n⟩) (a : guard = none := by rfl) (b : dst = some d := by rfl) (c : Nat.blt d n = true := by rfl) (e1 : xP env x = some (.int .i64 i) := by rfl) (e2 : xP env y = some (.int .i64 j) := by rfl) (e3 : i - j = m := by rfl) (e4 : -9223372036854775808 ≤ m ∧ m ≤ 9223372036854775807 := by exact ⟨by omega, by omega⟩) : EXL P ro ops (⟨dst, .binOp .sub t x y yt, ty, pos, after, guard⟩ :: rest) Q ⟨env, σ, mk, n⟩ := zU a b c (g_sub e1 e2 e3 e4) h
theorem wH {d : Nat} {x : Operand} {t e : TypeId} {sz m : Nat} {v : AV} (h : EXL P ro ops rest Q ⟨(d, .int .i64 (m : Int)) :: env, σ, mk, n⟩) (a : guard = none := by rfl) (b : dst = some d := by rfl) (c : Nat.blt d n = true := by rfl) (e1 : tB P t = some (e, sz) := by rfl) (e2 : xP env x = some v := by rfl) (e3 : lenA σ v m := by exact (List.length_map _).symm) : EXL P ro ops (⟨dst, .call { callee := .builtin .len, args := #[x], argTypes := #[t] }, ty, pos, after, guard⟩ :: rest) Q ⟨env, σ, mk, n⟩ := zU a b c (xH e1 e2 e3) h
theorem yC {o : Oper} {q want : Bool} {d : Nat} (h : EXL P ro ops rest Q ⟨(d, .raw undef) :: env, σ, mk, n⟩) (a : wX ops o env = some (.bool q, want) := by rfl) (a2 : q = !want := by rfl) (b : o.dst = some d := by rfl) (c : Nat.blt d n = true := by rfl) : EXL P ro ops (o :: rest) Q ⟨env, σ, mk, n⟩ := exl_skipL a a2 b c h
theorem xSr {o : Oper} {want : Bool} {d : Nat} (h : EXL P ro ops rest Q ⟨(d, .raw undef) :: env, σ, mk, n⟩) (a : wX ops o env = some (.raw undef, want) := by rfl) (b : o.dst = some d := by rfl) (c : Nat.blt d n = true := by rfl) : EXL P ro ops (o :: rest) Q ⟨env, σ, mk, n⟩ := exl_skipR a b c h
theorem vF {o : Oper} {q want : Bool} {d : Nat} (h : WL P ro kp ef ops F (k + 1) rest ((d, .raw undef) :: env) σ) (a : wX ops o env = some (.bool q, want) := by rfl) (a2 : q = !want := by rfl) (b1 : ef.contains k = false := by rfl) (b : o.dst = some d := by rfl) : WL P ro kp ef ops F k (o :: rest) env σ := wl_skip a a2 b1 b h
theorem xK {t : TypeId} {L : List AV} {d : Nat} (h : ∀ b, EXL P ro ops rest Q ⟨(d, .ptr b 0) :: env, .cells b L t :: σ, mk, n⟩) (a : guard = none := by rfl) (b : dst = some d := by rfl) (c : Nat.blt d n = true := by rfl) (e : zeroA P t = some L := by rfl) : EXL P ro ops (⟨dst, .alloc t, ty, pos, after, guard⟩ :: rest) Q ⟨env, σ, mk, n⟩ := exl_box a b c (vK e) h
theorem xB {t : TypeId} {x : Operand} {v : AV} {d : Nat} (h : ∀ b, EXL P ro ops rest Q ⟨(d, .ptr b 0) :: env, .cells b v.cells t :: σ, mk, n⟩) (a : guard = none := by rfl) (b : dst = some d := by rfl) (c : Nat.blt d n = true := by rfl) (e : xP env x = some v := by rfl) (e2 : isOne v = true := by rfl) : EXL P ro ops (⟨dst, .box t x, ty, pos, after, guard⟩ :: rest) Q ⟨env, σ, mk, n⟩ := exl_box a b c (g_box e e2) h
theorem yR {t tb : TypeId} {x y : Operand} {b i sz : Nat} {g : Bool} {v : AV} {l l' : List AV} {σ' : List Ent} (h : EXL P ro ops rest Q ⟨env, σ', mk, n⟩) (a : guard = none := by rfl) (a2 : dst = none := by rfl) (e1 : xP env x = some (.ptr b i) := by rfl) (e2 : tyOf P t = some (g, sz) := by rfl) (e3 : xP env y = some v := by rfl) (e4 : Upd σ (.cells b l tb) (.cells b l' tb) σ' := by first | exact Upd.here | exact Upd.there (Upd.here) | exact Upd.there (Upd.there (Upd.here)) | exact Upd.there (Upd.there (Upd.there (Upd.here))) | exact Upd.there (Upd.there (Upd.there (Upd.there (Upd.here)))) | exact Upd.there (Upd.there (Upd.there (Upd.there (Upd.there (Upd.here))))) | exact Upd.there (Upd.there (Upd.there (Upd.there (Upd.there (Upd.there (Upd.here)))))) | exact Upd.there (Upd.there (Upd.there (Upd.there (Upd.there (Upd.there (Upd.there (Upd.here))))))) | exact Upd.there (Upd.there (Upd.there (Upd.there (Upd.there (Upd.there (Upd.there (Upd.there (Upd.here)))))))) | exact Upd.there (Upd.there (Upd.there (Upd.there (Upd.there (Upd.there (Upd.there (Upd.there (Upd.there (Upd.here))))))))) | exact Upd.there (Upd.there (Upd.there (Upd.there (Upd.there (Upd.there (Upd.there (Upd.there (Upd.there (Upd.there (Upd.here)))))))))) | exact Upd.there (Upd.there (Upd.there (Upd.there (Upd.there (Upd.there (Upd.there (Upd.there (Upd.there (Upd.there (Upd.there (Upd.here))))))))))) | exact Upd.there (Upd.there (Upd.there (Upd.there (Upd.there (Upd.there (Upd.there (Upd.there (Upd.there (Upd.there (Upd.there (Upd.there (Upd.here)))))))))))) | exact Upd.there (Upd.there (Upd.there (Upd.there (Upd.there (Upd.there (Upd.there (Upd.there (Upd.there (Upd.there (Upd.there (Upd.there (Upd.there (Upd.here)))))))))))))) (e5 : tS l i v.cells = l' := by simp only [tS, q_z, AV.cells]; rfl) (e6 : isOne v = true := by rfl) (e7 : v.cells.all AV.one = true := by rfl) (e8 : v.cells.length = sz := by rfl) (e9 : i + sz ≤ l.length := by exact q_b rfl) : EXL P ro ops (⟨dst, .store t x y, ty, pos, after, guard⟩ :: rest) Q ⟨env, σ, mk, n⟩ := vT a a2 (wV e1 e2 e3 e4 e5 e6 e7 e8 e9) h
theorem yG {dst2 : Option Tmp} {ty2 : TypeId} {pos2 : String} {after2 : Array Edge} {guard2 : Option (Nat × Bool)} {s f off : Nat} {x y : Operand} {p q0 u : AV} {t : TypeId} {sz d d2 : Nat} (h : EXL P ro ops rest Q ⟨(d2, u) :: (d, q0) :: env, σ, mk, n⟩) (a : guard = none := by rfl) (b : dst = some d := by rfl) (c : Nat.blt d n = true := by rfl) (e1 : offOf P s f = some off := by rfl) (e2 : xP env x = some p := by rfl) (e3 : p.plus off = some q0 := by rfl) (m : guard2 = none := by rfl) (b2 : dst2 = some d2 := by rfl) (c2 : Nat.blt d2 n = true := by rfl) (e4 : tyOf P t = some (false, sz) := by rfl) (e5 : xP ((d, q0) :: env) y = some q0 := by rfl) (e6 : Pts σ q0 0 u := by first | exact .e rfl | exact .p (by (repeat first | exact q_h | apply q_t | assumption); done) rfl | exact .k0 (by (repeat first | exact q_h | apply q_t | assumption); done) (by first | assumption | exact xD (by assumption) | exact get_set (by first | assumption | exact xD (by assumption))) rfl | exact .k1 (by (repeat first | exact q_h | apply q_t | assumption); done) (by first | assumption | exact xD (by assumption) | exact get_set (by first | assumption | exact xD (by assumption))) rfl | exact .r (by (repeat first | exact q_h | apply q_t | assumption); done) rfl) : EXL P ro ops (⟨dst, .fieldAddr s x f, ty, pos, after, guard⟩ :: ⟨dst2, .load t y, ty2, pos2, after2, guard2⟩ :: rest) Q ⟨env, σ, mk, n⟩ := zU a b c (qX e1 e2 e3) (zU m b2 c2 (g_load1 e4 e5 e6) h)
theorem wL {dst2 : Option Tmp} {ty2 : TypeId} {pos2 : String} {after2 : Array Edge} {guard2 : Option (Nat × Bool)} {s f off : Nat} {x y : Operand} {p q0 u : AV} {t : TypeId} {sz d d2 : Nat} (h : EXL P ro ops rest Q ⟨(d2, u) :: (d, q0) :: env, σ, mk, n⟩) {qa wanta : Bool} (a : wX ops ⟨dst, .fieldAddr s x f, ty, pos, after, guard⟩ env = some (.bool qa, wanta) := by rfl) (a2 : qa = wanta := by rfl) (b : dst = some d := by rfl) (c : Nat.blt d n = true := by rfl) (e1 : offOf P s f = some off := by rfl) (e2 : xP env x = some p := by rfl) (e3 : p.plus off = some q0 := by rfl) {qm wantm : Bool} (m : wX ops ⟨dst2, .load t y, ty2, pos2, after2, guard2⟩ ((d, q0) :: env) = some (.bool qm, wantm) := by rfl) (m2 : qm = wantm := by rfl) (b2 : dst2 = some d2 := by rfl) (c2 : Nat.blt d2 n = true := by rfl) (e4 : tyOf P t = some (false, sz) := by rfl) (e5 : xP ((d, q0) :: env) y = some q0 := by rfl) (e6 : Pts σ q0 0 u := by first | exact .e rfl | exact .p (by (repeat first | exact q_h | apply q_t | assumption); done) rfl | exact .k0 (by (repeat first | exact q_h | apply q_t | assumption); done) (by first | assumption | exact xD (by assumption) | exact get_set (by first | assumption | exact xD (by assumption))) rfl | exact .k1 (by (repeat first | exact q_h | apply q_t | assumption); done) (by first | assumption | exact xD (by assumption) | exact get_set (by first | assumption | exact xD (by assumption))) rfl | exact .r (by (repeat first | exact q_h | apply q_t | assumption); done) rfl) : EXL P ro ops (⟨dst, .fieldAddr s x f, ty, pos, after, guard⟩ :: ⟨dst2, .load t y, ty2, pos2, after2, guard2⟩ :: rest) Q ⟨env, σ, mk, n⟩ := yZ a a2 b c (qX e1 e2 e3) (yZ m m2 b2 c2 (g_load1 e4 e5 e6) h)
theorem yL {f i : Nat} {o : Oper} {L : Array Bool} (h : DRV P ro kp ops o env σ fun env σ => DRF P ro kp ef ops F f (L.setIfInBounds i true) env σ) (hn : nextV ef (rdyGo L.toList ops.toList 0) = some i := by rfl) (ho : ops[i]? = some o := by rfl) (hf : Region.free .any ops L i = true := by kernel_rfl) : DRF P ro kp ef ops F (f + 1) L env σ := drf_val hn ho hf h
theorem yX : (∀ (x : St → Prop) (Q : Exit → St → Prop) (s : St), zA x Q .ret s = Q .ret s) ∧ (∀ (x : St → Prop) (i : Nat) (Q : Exit → St → Prop) (s : St), zA x Q (.exit i) s = Q (.exit i) s) ∧ (∀ (x : St → Prop) (Q : Exit → St → Prop) (s : St), zA x Q .normal s = x s) ∧ (∀ (i : Nat) (Q : Exit → St → Prop) (s : St), zF i Q .ret s = Q .ret s) ∧ (∀ (i : Nat) (Q : Exit → St → Prop) (s : St), zF i Q .normal s = Q .normal s) ∧ (∀ (i j : Nat) (Q : Exit → St → Prop) (s : St), zF i Q (.exit j) s = (if j = i then Q .normal s else Q (.exit j) s)) ∧ (∀ (Q : Exit → St → Prop) (s : St), zH Q .ret s = Q .ret s) ∧ (∀ (Q : Exit → St → Prop) (s : St), zH Q .normal s = Q .normal s) ∧ (∀ (j : Nat) (Q : Exit → St → Prop) (s : St), zH Q (.exit j) s = Q (.exit j) s) ∧ (∀ (P : Program) (fn : Func) (R : AV → List Ent → Prop) (s : St), yK P fn R .ret s = RetOK P fn R s) ∧ (∀ (P : Program) (fn : Func) (R : AV → List Ent → Prop) (s : St), yK P fn R .normal s = RetOK P fn R s) ∧ (∀ (α : Type) (f : α → St) (I : α → Prop) (μ : α → Nat) (m : Nat) (Q : Exit → St → Prop) (s : St), zE f I μ m Q .ret s = Q .ret s) ∧ (∀ (α : Type) (f : α → St) (I : α → Prop) (μ : α → Nat) (m : Nat) (j : Nat) (Q : Exit → St → Prop) (s : St), zE f I μ m Q (.exit j) s = Q (.exit j) s) ∧ (∀ (α : Type) (f : α → St) (I : α → Prop) (μ : α → Nat) (m : Nat) (Q : Exit → St → Prop) (s : St), zE f I μ m Q .normal s = (∃ x, I x ∧ μ x < m ∧ s.le (f x))) := ⟨fun _ _ _ => rfl, fun _ _ _ _ => rfl, fun _ _ _ => rfl, fun _ _ _ => rfl, fun _ _ _ => rfl, fun _ _ _ _ => rfl, fun _ _ => rfl, fun _ _ => rfl, fun _ _ _ => rfl, fun _ _ _ _ => rfl, fun _ _ _ _ => rfl, fun _ _ _ _ _ _ _ => rfl, fun _ _ _ _ _ _ _ _ => rfl, fun _ _ _ _ _ _ _ => rfl⟩
theorem zN {p : Prop} (h : true = false ∨ false = true := by first | exact .inl ‹_› | exact .inr ‹_›) : p := absurd h (by simp)
theorem tC : (∀ (α β : Type) (b : β) (f : α → β) (l : List α), (b ∈ l.map f) = ∃ a, a ∈ l ∧ f a = b) ∧ (∀ (β : Type) (a b : β) (l : List β), (a ∈ b :: l) = (a = b ∨ a ∈ l)) ∧ (∀ (β : Type) (a : β), (a ∈ ([] : List β)) = False) ∧ (∀ p : Prop, (p ∨ False) = p) ∧ (∀ (β : Type) (a : β) (l m : List β), (a ∈ l ++ m) = (a ∈ l ∨ a ∈ m)) := ⟨fun _ _ _ _ _ => by simp, fun _ _ _ _ => by simp, fun _ _ => by simp, fun _ => by simp, fun _ _ _ _ => by simp⟩
theorem wU {α : Type} : (∀ (n : Nat) (a : α) (l : List α), (a :: l).take (n + 1) = a :: l.take n) ∧ (∀ l : List α, l.take 0 = []) ∧ (∀ (n : Nat) (a : α) (l : List α), (a :: l).drop (n + 1) = l.drop n) ∧ (∀ l : List α, l.drop 0 = l) := ⟨fun _ _ _ => rfl, fun _ => rfl, fun _ _ _ => rfl, fun _ => rfl⟩
theorem yJ {f : Operand} {args : Array Operand} {ats : Array TypeId} {g : FuncId} {first cap l : List AV} {R : AV → List Ent → Prop} (h : SCall P g (first ++ l ++ cap) σ R) (hf : xP env f = some (.fn (.func g) first cap) := by rfl) (hl : evAs env args.toList = some l := by rfl) (he : entersB P g = true := by kernel_rfl) : GOp P ro ⟨dst, .call { callee := .value f, args := args, argTypes := ats }, ty, pos, after, guard⟩ env σ R := xJ hf hl (zB he) h
theorem yN {s : St} {x y : Code} {o : Operand} {e b : Bool} (ht : e = true → e = true → b = true → EX P ro x Q s) (hf : e = false → e = false → b = false → EX P ro y Q s) (hc : xP s.env o = some (.bool b) := by rfl) (g : BV e b := by first | assumption | exact .mk _) : EX P ro (.cond o x y) Q s := ex_cond hc (fun h => ht (g.eq.trans h) (g.eq.trans h) h) (fun h => hf (g.eq.trans h) (g.eq.trans h) h)
theorem zD {bo : BinOp} {x y : Operand} {t yt : TypeId} {ki : IntKind} {i j : Int} {e : Bool} {d : Nat} {cx cy : Code} {co : Operand} (ht : e = true → e = true → EX P ro cx Q ⟨(d, .bool true) :: env, σ, mk, n⟩) (hf : e = false → e = false → EX P ro cy Q ⟨(d, .bool false) :: env, σ, mk, n⟩) (a : guard = none := by rfl) (b : dst = some d := by rfl) (c : Nat.blt d n = true := by rfl) (e1 : xP env x = some (.int ki i) := by rfl) (e2 : xP env y = some (.int ki j) := by rfl) (e3 : opInt bo ki i j = some (.bool e) := by rfl) (hc : co = .tmp d := by rfl) : EXL P ro ops [⟨dst, .binOp bo t x y yt, ty, pos, after, guard⟩] (zA (EX P ro (.cond co cx cy) Q) Q) ⟨env, σ, mk, n⟩ :=
 zU a b c (wG e1 e2 e3) (zX (by
  subst hc
  cases e with
  | true => exact zG (b := true) (by simp [xP, vS]) rfl (ht rfl rfl)
  | false => exact yH (b := false) (by simp [xP, vS]) rfl (hf rfl rfl)))
theorem xT {o : Oper} {e b want : Bool} (ht : e = true → e = true → b = true → EXL P ro ops (o :: rest) Q ⟨env, σ, mk, n⟩) (hf : e = false → e = false → b = false → EXL P ro ops (o :: rest) Q ⟨env, σ, mk, n⟩) (hc : wX ops o env = some (.bool b, want) := by rfl) (g : BV e b := by first | assumption | exact .mk _) : EXL P ro ops (o :: rest) Q ⟨env, σ, mk, n⟩ := exl_caseL hc (fun h => ht (g.eq.trans h) (g.eq.trans h) h) (fun h => hf (g.eq.trans h) (g.eq.trans h) h)
theorem uW {o : Oper} {e b want : Bool} (ht : e = true → e = true → b = true → WL P ro kp ef ops F k (o :: rest) env σ) (hf : e = false → e = false → b = false → WL P ro kp ef ops F k (o :: rest) env σ) (hc : wX ops o env = some (.bool b, want) := by rfl) (g : BV e b := by first | assumption | exact .mk _) : WL P ro kp ef ops F k (o :: rest) env σ := wl_case hc (fun h => ht (g.eq.trans h) (g.eq.trans h) h) (fun h => hf (g.eq.trans h) (g.eq.trans h) h)
theorem xW {fn : Func} {vs : List AV} {v : AV} {σ1 : List Ent} (e : oneA vs = v) (hr : Res P env σ1 fn.results.toList vs := by first | exact .cons (.ofTmp rfl) .nil | exact .cons (.ofTmp rfl) (.cons (.ofTmp rfl) .nil) | exact .cons (.ofTmp rfl) (.cons (.ofTmp rfl) (.cons (.ofTmp rfl) .nil)) | (repeat (first | exact Res.nil | (apply Res.cons; (first | (apply Res1.ofTmp; rfl) | (apply Res1.ofCell; rfl; rfl; (first | exact .e rfl | exact .p (by (repeat first | exact q_h | apply q_t | assumption); done) rfl | exact .r (by (repeat first | exact q_h | apply q_t | assumption); done) rfl)) | (apply Res1.ofAgg; rfl; rfl; decide; (first | exact .e rfl rfl | exact .p (by (repeat first | exact q_h | apply q_t | assumption); done) rfl rfl | exact .r (by (repeat first | exact q_h | apply q_t | assumption); done) rfl rfl))))))) (hs : σ.Sublist σ1 := by repeat (first | exact q_r | apply q_q | apply q_k | exact q_a)) : RetOK P fn (Is v σ) ⟨env, σ1, [], n⟩ := ret_is .nil hr hs e
theorem xX {fn : Func} {vs : List AV} {σ1 σ3 : List Ent} {R : AV → List Ent → Prop} (h : Fin σ3 (oneA vs) R) (hr : Res P env σ1 fn.results.toList vs := by first | exact .cons (.ofTmp rfl) .nil | exact .cons (.ofTmp rfl) (.cons (.ofTmp rfl) .nil) | exact .cons (.ofTmp rfl) (.cons (.ofTmp rfl) (.cons (.ofTmp rfl) .nil)) | (repeat (first | exact Res.nil | (apply Res.cons; (first | (apply Res1.ofTmp; rfl) | (apply Res1.ofCell; rfl; rfl; (first | exact .e rfl | exact .p (by (repeat first | exact q_h | apply q_t | assumption); done) rfl | exact .r (by (repeat first | exact q_h | apply q_t | assumption); done) rfl)) | (apply Res1.ofAgg; rfl; rfl; decide; (first | exact .e rfl rfl | exact .p (by (repeat first | exact q_h | apply q_t | assumption); done) rfl rfl | exact .r (by (repeat first | exact q_h | apply q_t | assumption); done) rfl rfl))))))) (hs : σ3.Sublist σ1 := by repeat (first | exact q_r | apply q_q | apply q_k | exact q_a)) : RetOK P fn R ⟨env, σ1, [], n⟩ := ret_q .nil hr hs h
theorem wW {env' : Env} {σ' : List Ent} {m : List Nat} (h : EnvSub env' env := by repeat (first | exact trivial | refine ⟨rfl, ?_⟩)) (hs : σ'.Sublist σ := by repeat (first | exact q_r | apply q_q | apply q_k | exact q_a)) : St.le ⟨env, σ, m, n⟩ ⟨env', σ', m, n⟩ := St.le_of h hs
end
end Go.Proofs.YtkhoengjdfmfaaaGreat
