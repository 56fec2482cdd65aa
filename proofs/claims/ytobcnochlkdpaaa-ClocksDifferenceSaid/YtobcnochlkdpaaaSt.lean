/- The tie between the statement's form and contracts over abstract values. -/
import Derived.Test.YtobcnochlkdpaaaSk
import Derived.Test.YtobcnochlkdpaaaRows
import Derived.ProofKit
import Derived.OpenShut
import Derived.Deep.Slices
import Derived.ChangeCalls
namespace Go.Proofs.Ytobcnochlkdpaaa
set_option linter.unusedSimpArgs false
set_option linter.unusedVariables false
open Go.ChangeShapes Go.WideShapes Go.ChangeAt Go.RowKit Go.Deep
set_option linter.unusedVariables false

/-- All that lies in memory. -/
def hp (w : World) : Mem := fun b => w.heap[b]?
def fx0 (w : World) : Fx := ⟨w, fun _ => none⟩
theorem Good.start (w : World) : Good (fx0 w) (hp w) [] w :=
  ⟨rfl, rfl, rfl, fun _ _ h => h, fun _ _ h => (by cases h), fun _ _ _ => rfl, fun _ h => (by cases h), fun _ h => (by cases h), List.nodup_nil⟩
theorem Good.below {w w' : World} {M' : Mem} {σ : List Ent} (h : Good (fx0 w) M' σ w') (hm : (hp w).le M') : Below w.heap.size w w' := by
  have hb : ∀ k, k < w.heap.size → w'.heap[k]? = w.heap[k]? := fun k hk => by
    have e : w.heap[k]? = some w.heap[k] := Array.getElem?_eq_getElem hk
    rw [e]
    exact h.mem k _ (hm k _ e)
  refine ⟨h.os, h.tape, h.output, ?_, hb⟩
  by_cases hlt : w'.heap.size < w.heap.size
  · have e := hb _ hlt
    rw [Array.getElem?_eq_getElem hlt] at e
    have := (Array.getElem?_eq_some_iff.1 e).1
    omega
  · omega

/-- Types of plain data. -/
inductive Sh where
  | int (k : IntKind)
  | bool
  | str
  | agg (l : List Sh)
  | slice (s : Sh)

mutual
def Sh.n : Sh → Nat
  | .agg l => Sh.ns l
  | _ => 1
def Sh.ns : List Sh → Nat
  | [] => 0
  | s :: l => s.n + Sh.ns l
end
mutual
def Sh.ok (P : Program) : Sh → TypeId → Bool
  | .int k, t => match P.underlying t with | some (.int k') => k' == k | _ => false
  | .bool, t => match P.underlying t with | some .bool => true | _ => false
  | .str, t => match P.underlying t with | some .string => true | _ => false
  | .agg l, t => match P.underlying t with | some (.struct fs) => Sh.oks P l fs.toList 0 && P.cellsOf t == Sh.ns l | _ => false
  | .slice s, t => match P.underlying t with | some (.slice e) => Sh.ok P s e && P.cellsOf e == s.n && decide (0 < s.n) | _ => false
def Sh.oks (P : Program) : List Sh → List Field → Nat → Bool
  | [], [], _ => true
  | s :: l, f :: fs, o => Sh.ok P s f.type && f.offset == o && P.cellsOf f.type == s.n && Sh.oks P l fs (o + s.n)
  | _, _, _ => false
end
mutual
/-- What cells of such a type may be. -/
def Fits : Sh → List AV → Prop
  | .int k, l => ∃ n, l = [.int k n] ∧ (Lit.int k n).wf = true
  | .bool, l => ∃ b, l = [.bool b]
  | .str, l => ∃ s, l = [.str s] ∧ s.size ≤ maxLen
  | .agg ss, l => Fitss ss l
  | .slice s, l => ∃ xs, l = [.dl s.n xs] ∧ xs.length ≤ maxLen ∧ ∀ x ∈ xs, Fits s x
def Fitss : List Sh → List AV → Prop
  | [], l => l = []
  | s :: ss, l => ∃ a b, l = a ++ b ∧ Fits s a ∧ Fitss ss b
end

theorem RRel.of_get {M : Mem} {b sz : Nat} : ∀ {l : List (List AV)} {i : Nat}, (∀ x ∈ l, x.length = sz) → (∀ k x, l[k]? = some x → CRel M b (i + k * sz) x) → RRel M b i l
  | [], _, _, _ => by simp [RRel]
  | y :: l, i, hs, h => by
    simp only [RRel]
    refine ⟨by simpa using h 0 y rfl, RRel.of_get (sz := sz) (fun x hx => hs x (by simp [hx])) (fun k x hk => ?_)⟩
    have := h (k + 1) x (by simpa using hk)
    rw [hs y (by simp), show i + sz + k * sz = i + (k + 1) * sz by rw [Nat.add_mul]; omega]
    exact this

section
variable {H : Type} {enc : TypeId × Value → H} {P : Program} {w : World} {spare : Nat → Bool} {held : Bool}

theorem cell_hp {b i : Nat} {v : Value} (h : w.cell? ⟨b, i, none⟩ = some v) : (hp w).cell b i = some v := by
  unfold World.cell? at h
  unfold Mem.cell hp
  cases hb : w.heap[b]? with
  | none => rw [show (⟨b, i, none⟩ : Addr).block = b from rfl, hb] at h; cases h
  | some o => rw [show (⟨b, i, none⟩ : Addr).block = b from rfl, hb] at h; cases o <;> simp_all

mutual
theorem trod_fits : ∀ (s : Sh) (t : TypeId) (fuel : Nat) (cs : List Value) (x : DataW H × List MemPlace), Sh.ok P s t = true → DataW.trod enc P w 0 spare held fuel t cs = some x → ∃ l, VRels (hp w) l cs ∧ Fits s l ∧ l.length = s.n
  | .int k, t, fuel, cs, x, hok, h => by
    unfold Sh.ok at hok
    split at hok
    · rename_i k' ht
      have : k' = k := by simpa using hok
      subst this
      obtain ⟨n, rfl, _, hw⟩ := DataW.trod_int ht h
      exact ⟨[.int k' n], by simp [VRels, VRel], by simp only [Fits]; exact ⟨n, rfl, hw⟩, by simp [Sh.n]⟩
    · cases hok
  | .bool, t, fuel, cs, x, hok, h => by
    unfold Sh.ok at hok
    split at hok
    · rename_i ht
      obtain ⟨b, rfl, _⟩ := DataW.trod_bool ht h
      exact ⟨[.bool b], by simp [VRels, VRel], by simp only [Fits]; exact ⟨b, rfl⟩, by simp [Sh.n]⟩
    · cases hok
  | .str, t, fuel, cs, x, hok, h => by
    unfold Sh.ok at hok
    split at hok
    · rename_i ht
      obtain ⟨b, rfl, _, hs⟩ := DataW.trod_string ht h
      exact ⟨[.str b], by simp [VRels, VRel], by simp only [Fits]; exact ⟨b, rfl, hs⟩, by simp [Sh.n]⟩
    · cases hok
  | .slice s, t, fuel, cs, x, hok, h => by
    unfold Sh.ok at hok
    split at hok
    · rename_i e ht
      simp only [Bool.and_eq_true, beq_iff_eq, decide_eq_true_eq] at hok
      obtain ⟨⟨hok, hn⟩, hpos⟩ := hok
      rcases open_slice ht h with ⟨rfl, rfl⟩ | ⟨a, len, cap, m, n, D, Pl, rfl, _, hlc, hcm, hm, _, hel⟩
      · refine ⟨[.dl s.n []], ?_, by simp only [Fits]; exact ⟨[], rfl, Nat.zero_le _, by simp⟩, by simp [Sh.n]⟩
        simp only [VRels, VRel]
        exact ⟨_, _, rfl, ⟨none, 0, rfl, Nat.le_refl _, Nat.zero_le _, by simp, .inl (by simp)⟩, rfl⟩
      · have hlm : len ≤ m := by rw [hm]; split <;> omega
        have hex : ∀ i, i < len → ∃ l, (∃ cs', w.cells? 0 (a.add (i * s.n)) s.n = some cs' ∧ VRels (hp w) l cs') ∧ Fits s l ∧ l.length = s.n := by
          intro i hi
          obtain ⟨cs', h1, h2⟩ := hel i (by omega)
          obtain ⟨l, h3, h4, h5⟩ := trod_fits s e n cs' _ hok h2
          rw [hn] at h1
          exact ⟨l, ⟨cs', h1, h3⟩, h4, h5⟩
        obtain ⟨V, hV⟩ := choose_lt hex
        have hspot : 0 < len → a.spot = none := fun h0 => by
          obtain ⟨⟨cs', h1, _⟩, _⟩ := hV 0 h0
          obtain ⟨_, hl', hc⟩ := World.cells?_some h1
          have := hc 0 hpos
          simp only [Nat.zero_mul, Addr.add, if_true] at this
          unfold World.cell? at this
          have hx : cs'[0]? = some (cs'[0]'(by omega)) := List.getElem?_eq_getElem (by omega)
          rw [hx] at this
          split at this
          · split at this
            · cases this
            · rename_i hs; simpa using hs
          · cases this
        refine ⟨[.dl s.n ((List.range len).map V)], ?_, ?_, by simp [Sh.n]⟩
        · simp only [VRels, VRel]
          refine ⟨_, _, rfl, ⟨some a, cap, by simp, by simpa using hlc, hcm, ?_, ?_⟩, rfl⟩
          · intro x hx
            obtain ⟨i, hi, rfl⟩ := List.mem_map.1 hx
            exact (hV i (List.mem_range.1 hi)).2.2
          · by_cases h0 : len = 0
            · subst h0; exact .inl rfl
            · right
              have hs := hspot (by omega)
              refine ⟨a.block, a.off, by cases a; simp at hs; subst hs; rfl, RRel.of_get (sz := s.n) ?_ ?_⟩
              · intro x hx
                obtain ⟨i, hi, rfl⟩ := List.mem_map.1 hx
                exact (hV i (List.mem_range.1 hi)).2.2
              · intro k x hk
                rw [List.getElem?_map] at hk
                by_cases hkl : k < len
                · rw [List.getElem?_range hkl] at hk
                  simp only [Option.map_some, Option.some.injEq] at hk
                  subst hk
                  obtain ⟨⟨cs', h1, h2⟩, _, h3⟩ := hV k hkl
                  obtain ⟨_, hl', hc⟩ := World.cells?_some h1
                  refine CRel.of_cells h2 (fun j v hj => cell_hp ?_)
                  have hjn : j < s.n := by
                    have := (List.getElem?_eq_some_iff.1 hj).1; omega
                  have := hc j hjn
                  rw [hj] at this
                  have ea : (a.add (k * s.n)).add j = ⟨a.block, a.off + k * s.n + j, none⟩ := by
                    rw [add_add]
                    unfold Addr.add
                    cases a; simp only at hs; subst hs
                    split <;> simp_all <;> omega
                  rw [← ea]; exact this
                · rw [List.getElem?_eq_none (by simpa using hkl)] at hk; cases hk
        · simp only [Fits]
          refine ⟨_, rfl, by simp; omega, fun x hx => ?_⟩
          obtain ⟨i, hi, rfl⟩ := List.mem_map.1 hx
          exact (hV i (List.mem_range.1 hi)).2.1
    · cases hok
  | .agg ss, t, fuel, cs, x, hok, h => by
    unfold Sh.ok at hok
    split at hok
    · rename_i fs ht
      simp only [Bool.and_eq_true, beq_iff_eq] at hok
      obtain ⟨hok, hn⟩ := hok
      obtain ⟨xs, n, _, _, hlen, hxl, hf⟩ := DataW.trod_struct ht h
      obtain ⟨l, h1, h2, h3⟩ := trods_fits ss fs.toList n cs 0 hok (fun f hfm => by
        obtain ⟨i, hi⟩ := List.getElem?_of_mem hfm
        have hi' : fs[i]? = some f := by simpa using hi
        have := hf i f hi'
        have hlt : i < xs.length := by rw [hxl]; exact (Array.getElem?_eq_some_iff.1 hi').1
        rw [List.getElem?_eq_getElem hlt] at this
        exact ⟨_, this⟩) (by omega)
      refine ⟨l, ?_, by simpa only [Fits] using h2, by simpa [Sh.n] using h3⟩
      rw [hn] at hlen
      rw [List.drop_zero, List.take_of_length_le (by omega)] at h1
      exact h1
    · cases hok
theorem trods_fits : ∀ (ss : List Sh) (fs : List Field) (n : Nat) (cs : List Value) (o : Nat), Sh.oks P ss fs o = true → (∀ f ∈ fs, ∃ x, DataW.trod enc P w 0 spare held n f.type ((cs.drop f.offset).take (P.cellsOf f.type)) = some x) → o + Sh.ns ss ≤ cs.length →
    ∃ l, VRels (hp w) l ((cs.drop o).take (Sh.ns ss)) ∧ Fitss ss l ∧ l.length = Sh.ns ss
  | [], fs, n, cs, o, hok, hf, hl => ⟨[], by simp [VRels, Sh.ns], by simp [Fitss], by simp [Sh.ns]⟩
  | s :: ss, [], n, cs, o, hok, hf, hl => by simp [Sh.oks] at hok
  | s :: ss, f :: fs, n, cs, o, hok, hf, hl => by
    simp only [Sh.oks, Bool.and_eq_true, beq_iff_eq] at hok
    obtain ⟨⟨⟨h1, h2⟩, h3⟩, h4⟩ := hok
    simp only [Sh.ns] at hl
    obtain ⟨x, hx⟩ := hf f (by simp)
    obtain ⟨a, a1, a2, a3⟩ := trod_fits s f.type n _ x h1 hx
    obtain ⟨b, b1, b2, b3⟩ := trods_fits ss fs n cs (o + s.n) h4 (fun g hg => hf g (by simp [hg])) (by omega)
    refine ⟨a ++ b, ?_, by simp only [Fitss]; exact ⟨a, b, rfl, a2, b2⟩, by simp [Sh.ns, a3, b3]⟩
    rw [h2, h3] at a1
    have := a1.append b1
    simp only [Sh.ns]
    rw [List.take_add, List.drop_drop]
    exact this
end

/-- A value of such a type. -/
def argAV : Sh → List AV → AV
  | .agg _, l => .agg l
  | _, l => l.headD (.bool true)
theorem arg_fits {s : Sh} {t : TypeId} {v : Value} {d : DataW H} {ps : List MemPlace} {r : Reach} {b0 : Nat} (hok : Sh.ok P s t = true) (hval : Value.okWide P w r b0 t v) (hd : DataW.Trod enc P w 0 spare held t v d ps) :
    ∃ l, Fits s l ∧ VRel (hp w) (argAV s l) v := by
  obtain ⟨fuel, hf⟩ := hd
  obtain ⟨l, h1, h2, h3⟩ := trod_fits s t fuel _ _ hok hf
  refine ⟨l, h2, ?_⟩
  cases s with
  | int k =>
    unfold Sh.ok at hok
    split at hok
    · rename_i k' ht
      obtain ⟨n, rfl⟩ := okWide_int ht hval
      simp only [Fits] at h2
      obtain ⟨m, rfl, _⟩ := h2
      simpa [VRels, Value.cells, argAV] using h1
    · cases hok
  | bool =>
    unfold Sh.ok at hok
    split at hok
    · rename_i ht
      obtain ⟨n, rfl⟩ := okWide_bool ht hval
      simp only [Fits] at h2
      obtain ⟨m, rfl⟩ := h2
      simpa [VRels, Value.cells, argAV] using h1
    · cases hok
  | str =>
    unfold Sh.ok at hok
    split at hok
    · rename_i ht
      obtain ⟨n, rfl⟩ := okWide_string ht hval
      simp only [Fits] at h2
      obtain ⟨m, rfl, _⟩ := h2
      simpa [VRels, Value.cells, argAV] using h1
    · cases hok
  | slice s =>
    unfold Sh.ok at hok
    split at hok
    · rename_i e ht
      obtain ⟨a, n, c, rfl⟩ := okWide_slice ht hval
      simp only [Fits] at h2
      obtain ⟨m, rfl, _⟩ := h2
      simp only [VRels, Value.cells] at h1
      obtain ⟨v, r, e, h1, _⟩ := h1
      simp at e
      obtain ⟨rfl, rfl⟩ := e
      exact h1
    · cases hok
  | agg ss =>
    unfold Sh.ok at hok
    split at hok
    · rename_i fs ht
      obtain ⟨cs, rfl, _⟩ := okWide_struct ht hval
      simp only [argAV, VRel]
      exact ⟨cs, rfl, by simpa [Value.cells] using h1⟩
    · cases hok

/-- All arguments. -/
theorem args_fit : ∀ {ss : List Sh} {ts : List TypeId} {vs : List Value} {ds : List (DataW H)} {ps : List MemPlace} {r : Reach} {b0 : Nat}, ss.length = ts.length → (∀ (i : Nat) s t, ss[i]? = some s → ts[i]? = some t → Sh.ok P s t = true) → (∀ (j : Nat) t v, ts[j]? = some t → vs[j]? = some v → Value.okWide P w r b0 t v) →
    DataW.TrodAll enc P w 0 spare held ts vs ds ps → ∃ ls : List (List AV), ls.length = ss.length ∧ (∀ (i : Nat) s l, ss[i]? = some s → ls[i]? = some l → Fits s l) ∧ VRels (hp w) (List.zipWith argAV ss ls) vs
  | [], [], vs, ds, ps, r, b0, _, _, _, h => by
    obtain ⟨rfl, rfl, rfl⟩ := trodAll_nil h
    exact ⟨[], rfl, by simp, by simp [VRels]⟩
  | s :: ss, [], _, _, _, _, _, hl, _, _, _ => by simp at hl
  | [], t :: ts, _, _, _, _, _, hl, _, _, _ => by simp at hl
  | s :: ss, t :: ts, vs, ds, ps, r, b0, hl, hok, hval, h => by
    obtain ⟨v, vs', d, ds', p, q, rfl, rfl, rfl, h1, h2⟩ := trodAll_cons h
    obtain ⟨l, f1, f2⟩ := arg_fits (hok 0 s t rfl rfl) (hval 0 t v rfl rfl) h1
    obtain ⟨ls, g1, g2, g3⟩ := args_fit (ss := ss) (by simpa using hl) (fun i s t a b => hok (i + 1) s t (by simpa using a) (by simpa using b)) (fun j t v a b => hval (j + 1) t v (by simpa using a) (by simpa using b)) h2
    refine ⟨l :: ls, by simp [g1], ?_, ?_⟩
    · intro i s' l' ha hb
      cases i with
      | zero => simp at ha hb; subst ha; subst hb; exact f1
      | succ i => exact g2 i s' l' (by simpa using ha) (by simpa using hb)
    · simp only [List.zipWith_cons_cons, VRels]
      exact ⟨v, vs', rfl, f2, g3⟩

theorem trodAll_stays {W W' : World} (hl : laidOutB P = true) (hb : Below W.heap.size W W') {sp : Nat → Bool} : ∀ {ts : List TypeId} {vs : List Value} {ds : List (DataW H)} {ps : List MemPlace}, (∀ t ∈ ts, P.readableRec t = true ∧ t < P.types.size) → (∀ x ∈ ps, x.block < W.heap.size) → (∀ x ∈ ps, sp x.block = true) →
    DataW.TrodAll enc P W 0 (fun _ => true) true ts vs ds ps → DataW.TrodAll enc P W' 0 sp true ts vs ds ps
  | [], vs, ds, ps, _, _, _, h => by
    obtain ⟨rfl, rfl, rfl⟩ := trodAll_nil h
    exact h
  | t :: ts, vs, ds, ps, ht, hlt, hsp, h => by
    obtain ⟨v, vs', d, ds', p, q, rfl, rfl, rfl, h1, h2⟩ := trodAll_cons h
    exact trodAll_cons_mk (WideElems.Trod_stays hl (ht t (by simp)).1 (ht t (by simp)).2 h1 (fun x hx => hb.same (hlt x (by simp [hx]))) (fun x hx => hsp x (by simp [hx])))
      (trodAll_stays hl hb (fun u hu => ht u (by simp [hu])) (fun x hx => hlt x (by simp [hx])) (fun x hx => hsp x (by simp [hx])) h2)

/-- A law: it answers true, and nothing that was there has turned. -/
theorem law_post {f : Func} {s : ChangeSpec} {W W' : World} {args : Array Value} {ds gs : List (DataW H)} {before : List MemPlace} (hl : laidOutB P = true) (hrow : ∀ t ∈ f.params.toList, P.readableRec t = true ∧ t < P.types.size) {tb : TypeId} (hrt : f.resultTypes = #[tb]) (htb : P.underlying tb = some .bool)
    (hvs : s.vars = []) (hfn : ∀ ds : List (DataW H), ds.length = f.params.size → s.fn H ds = { results := [.lit (.bool true)], args := ds })
    (hW : DataW.Whole enc P f.params.toList s.vars false W args.toList ds gs before) (hb : Below W.heap.size W W') : s.post enc P f false true false false W args (.bool true) W' := by
  have hlt : ∀ p ∈ before, p.block < W.heap.size := fun p hp => by simpa using hW.lt p hp
  have hW' := hW
  obtain ⟨p, q, hA, hV, rfl, hfz, hnd⟩ := hW
  rw [hvs] at hV
  obtain ⟨rfl, rfl⟩ := trodVars_none hV
  have hlen : ds.length = f.params.size := by
    have := (trodAll_length hA).2
    simpa using this
  have hs : s.fn H (ds ++ []) = { results := [.lit (.bool true)], args := ds } := by rw [List.append_nil]; exact hfn ds hlen
  have hres : ∀ (b : Nat) (sp : Nat → Bool) (hd : Bool), DataW.TrodAll enc P W' b sp hd f.resultTypes.toList ((Value.bool true).resultList f.resultTypes.size) (s.fn H (ds ++ [])).results [] := fun b sp hd => by
    rw [hs, hrt]
    exact trodAll_cons_mk (shut_bool htb _) trodAll_mk0
  have hargs : ∀ sp : Nat → Bool, (∀ p' ∈ p ++ [], sp p'.block = true) → DataW.TrodAll enc P W' 0 sp true f.params.toList args.toList (s.fn H (ds ++ [])).args p := fun sp hsp => by
    rw [hs]
    exact trodAll_stays hl hb hrow (fun x hx => hlt x (by simp [hx])) (fun x hx => hsp x (by simp [hx])) hA
  have hvars : ∀ sp : Nat → Bool, DataW.TrodVars enc P W' sp s.vars (s.fn H (ds ++ [])).vars [] := fun sp => by
    rw [hs, hvs]; exact rfl
  refine ⟨ds, [], p ++ [], [], p, [], hW', hres _ _ _, hargs _ (fun x hx => by simpa using hlt x hx), hvars _, hb.frame _, fun _ => ?_⟩
  refine ⟨ok_one hrt rfl (okWide_bool_mk htb _), _, _, ([] ++ p) ++ [], ⟨[] ++ p, [], trodAll_append (hargs _ (fun _ _ => rfl)) (hres _ _ _), hvars _, rfl, ?_, ?_⟩, ?_⟩
  · intro b off hp
    rw [hb.frozen (hlt (.cell b off) (by simpa using hp))]
    exact hfz b off (by simpa using hp)
  · intro ha; cases ha
  · intro x hx _
    simpa using hx

def shsB (P : Program) : List Sh → List TypeId → Bool
  | [], [] => true
  | s :: ss, t :: ts => Sh.ok P s t && P.readableRec t && decide (t < P.types.size) && shsB P ss ts
  | _, _ => false
theorem shsB_all {P : Program} : ∀ {ss : List Sh} {ts : List TypeId}, shsB P ss ts = true → ss.length = ts.length ∧ (∀ t ∈ ts, P.readableRec t = true ∧ t < P.types.size) ∧ ∀ (i : Nat) s t, ss[i]? = some s → ts[i]? = some t → Sh.ok P s t = true
  | [], [], _ => ⟨rfl, by simp, by simp⟩
  | [], _ :: _, h => by simp [shsB] at h
  | _ :: _, [], h => by simp [shsB] at h
  | s :: ss, t :: ts, h => by
    simp only [shsB, Bool.and_eq_true, decide_eq_true_eq] at h
    obtain ⟨⟨⟨h1, h2⟩, h3⟩, h4⟩ := h
    obtain ⟨k1, k2, k3⟩ := shsB_all h4
    refine ⟨by simp [k1], fun u hu => ?_, fun i a b ha hb => ?_⟩
    · rcases List.mem_cons.1 hu with rfl | hu
      · exact ⟨h2, h3⟩
      · exact k2 u hu
    · cases i with
      | zero => simp at ha hb; subst ha; subst hb; exact h1
      | succ i => exact k3 i a b (by simpa using ha) (by simpa using hb)

/-- From contracts to the form's contract. -/
theorem law_calls {f : Func} {fn : FuncId} {s : ChangeSpec} {ss : List Sh} (hl : laidOutB P = true) (hss : shsB P ss f.params.toList = true) {tb : TypeId} (hrt : f.resultTypes = #[tb]) (htb : P.underlying tb = some .bool)
    (hvs : s.vars = []) (hfn : ∀ ds : List (DataW H), ds.length = f.params.size → s.fn H ds = { results := [.lit (.bool true)], args := ds })
    (hc : ∀ ls : List (List AV), ls.length = ss.length → (∀ (i : Nat) s l, ss[i]? = some s → ls[i]? = some l → Fits s l) → SCall P fn (List.zipWith argAV ss ls) [] (fun r _ => r = .bool true))
    {W : World} {base : Nat} {args : Array Value} {ds gs : List (DataW H)} {before : List MemPlace}
    (hval : ∀ (j : Nat) t v, f.params[j]? = some t → args[j]? = some v → Value.okWide P W .any base t v)
    (hW : DataW.Whole enc P f.params.toList s.vars false W args.toList ds gs before) :
    Calls P fn args W fun e W' => ∃ v, e = .returned v ∧ s.post enc P f false true false false W args v W' := by
  obtain ⟨hsl, hrow, hsh⟩ := shsB_all hss
  have hW' := hW
  obtain ⟨p, q, hA, hV, rfl, hfz, hnd⟩ := hW
  obtain ⟨ls, h1, h2, h3⟩ := args_fit hsl hsh (fun j t v a b => hval j t v (by simpa using a) (by simpa using b)) hA
  refine ((hc ls h1 h2).run (fx0 W) (hp W) W args (Good.start W) h3).mono ?_
  rintro e W' ⟨M', σ', r, v, hm, hg, hv, rfl, rfl⟩
  simp only [VRel] at hv
  subst hv
  exact ⟨_, rfl, law_post hl hrow hrt htb hvs hfn hW' (hg.below hm)⟩
end
end Go.Proofs.Ytobcnochlkdpaaa
