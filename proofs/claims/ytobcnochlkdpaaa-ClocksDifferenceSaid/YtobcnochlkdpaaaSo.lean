/- A logic of abstract values: the same values, read otherwise. -/
import Derived.Test.YtobcnochlkdpaaaSl
import Derived.Test.YtobcnochlkdpaaaSt
namespace Go.Proofs.Ytobcnochlkdpaaa
set_option linter.unusedSimpArgs false
set_option linter.unusedVariables false

theorem scall_view {P : Program} {f : FuncId} {args args' : List AV} {σ : List Ent} {Q : AV → List Ent → Prop} (hc : ∀ M vs, VRels M args vs → VRels M args' vs) (h : SCall P f args' σ Q) : SCall P f args σ Q :=
  ⟨fun X M w vs hg ha => h.run X M w vs hg (hc _ _ ha)⟩
theorem VRel.dl_view {M : Mem} {sz : Nat} {l l' : List (List AV)} {u : Value} (hlen : l'.length = l.length) (hs : ∀ x ∈ l', x.length = sz) (hv : ∀ (k : Nat) x x' b i, l[k]? = some x → l'[k]? = some x' → CRel M b i x → CRel M b i x') (h : VRel M (.dl sz l) u) : VRel M (.dl sz l') u := by
  simp only [VRel] at h ⊢
  obtain ⟨a, cap, rfl, h1, h2, h3, h4⟩ := h
  refine ⟨a, cap, by rw [hlen], by rw [hlen]; exact h1, h2, hs, ?_⟩
  rcases h4 with rfl | ⟨b, off, rfl, hr⟩
  · left; simpa using hlen
  · refine .inr ⟨b, off, rfl, RRel.of_get hs fun k x' hx' => ?_⟩
    have hk : k < l.length := by rw [← hlen]; exact (List.getElem?_eq_some_iff.1 hx').1
    exact hv k l[k] x' b _ (List.getElem?_eq_getElem hk) hx' (hr.get h3 (List.getElem?_eq_getElem hk))
theorem CRel.view {M : Mem} {b : Nat} : ∀ {l l' : List AV} {i : Nat}, (∀ vs, VRels M l vs → VRels M l' vs) → CRel M b i l → CRel M b i l' := by
  intro l l' i hv h
  have key : ∀ (l : List AV) (i : Nat), CRel M b i l → ∃ vs : List Value, VRels M l vs ∧ ∀ j v, vs[j]? = some v → M.cell b (i + j) = some v := by
    intro l
    induction l with
    | nil => intro i _; exact ⟨[], by simp [VRels], by simp⟩
    | cons x l ih =>
      intro i h
      simp only [CRel] at h
      obtain ⟨⟨v, h1, h2⟩, h3⟩ := h
      obtain ⟨vs, h4, h5⟩ := ih (i + 1) h3
      refine ⟨v :: vs, by simp only [VRels]; exact ⟨v, vs, rfl, h2, h4⟩, fun j u hu => ?_⟩
      cases j with
      | zero => simp at hu; subst hu; simpa using h1
      | succ j => have := h5 j u (by simpa using hu); rwa [show i + (j + 1) = i + 1 + j by omega]
  obtain ⟨vs, h1, h2⟩ := key l i h
  exact CRel.of_cells (hv vs h1) h2
/-- Nils, n of them, are n empty slices. -/
theorem nils_view {M : Mem} {sz n : Nat} {u : Value} (h : VRel M (.dl 1 (List.replicate n [.slv nilS])) u) : VRel M (.dl 1 (List.replicate n [.dl sz []])) u := by
  refine h.dl_view (by simp) (fun x hx => by rw [(List.mem_replicate.1 hx).2]; rfl) (fun k x x' b i hx hx' hc => ?_)
  have h1 := List.mem_replicate.1 (List.mem_of_getElem? hx)
  have h2 := List.mem_replicate.1 (List.mem_of_getElem? hx')
  rw [h1.2] at hc
  rw [h2.2]
  exact hc.view fun vs hvs => (Cv.here .nil : Cv nilS (.dl sz []) [.slv nilS] [.dl sz []]).rel (nil_rel M sz) hvs
theorem VRels.view {M : Mem} : ∀ {l l' : List AV} {vs : List Value}, l.length = l'.length → (∀ (k : Nat) x x' u, l[k]? = some x → l'[k]? = some x' → VRel M x u → VRel M x' u) → VRels M l vs → VRels M l' vs
  | [], [], _, _, _, h => h
  | [], _ :: _, _, hl, _, _ => by simp at hl
  | _ :: _, [], _, hl, _, _ => by simp at hl
  | x :: l, x' :: l', vs, hl, hv, h => by
    simp only [VRels] at h ⊢
    obtain ⟨v, r, rfl, h1, h2⟩ := h
    exact ⟨v, r, rfl, hv 0 x x' v rfl rfl h1, VRels.view (by simpa using hl) (fun k y y' u hy hy' => hv (k + 1) y y' u hy hy') h2⟩
/-- One of the cells of the one argument, a struct. -/
theorem agg_view {M : Mem} {a b : List AV} {x x' : AV} {vs : List Value} (hv : ∀ u, VRel M x u → VRel M x' u) (hc : VRels M [.agg (a ++ x :: b)] vs) : VRels M [.agg (a ++ x' :: b)] vs := by
  refine VRels.view (l := [.agg (a ++ x :: b)]) (by rfl) (fun k y y' u hy hy' hr => ?_) hc
  cases k with
  | zero =>
    simp at hy hy'; subst hy hy'
    simp only [VRel] at hr ⊢
    obtain ⟨ws, rfl, hw⟩ := hr
    refine ⟨ws, rfl, VRels.view (l := a ++ x :: b) (by simp) (fun k y y' u hy hy' hr => ?_) hw⟩
    by_cases e : k = a.length
    · subst e; simp at hy hy'; subst hy hy'; exact hv u hr
    · have : (a ++ x :: b)[k]? = (a ++ x' :: b)[k]? := by
        rw [List.getElem?_append, List.getElem?_append]
        split
        · rfl
        · rename_i hk
          obtain ⟨j, hj⟩ : ∃ j, k - a.length = j + 1 := ⟨k - a.length - 1, by omega⟩
          rw [hj]; rfl
      rw [this, hy'] at hy; cases hy; exact hr
  | succ k => simp at hy

/-! What plain arguments are. -/
theorem fits_slice {α : Type} {f : α → List AV} {p : α → Prop} {s : Sh} (hs : ∀ x, Fits s x → ∃ a, x = f a ∧ p a) {l : List AV} (h : Fits (.slice s) l) : ∃ xs : List α, l = [.dl s.n (xs.map f)] ∧ ∀ a ∈ xs, p a := by
  simp only [Fits] at h
  obtain ⟨xs, rfl, hlen, h2⟩ := h
  clear hlen
  have : ∃ ys : List α, xs = ys.map f ∧ ∀ a ∈ ys, p a := by
    induction xs with
    | nil => exact ⟨[], rfl, by simp⟩
    | cons x xs ih =>
      obtain ⟨a, rfl, ha⟩ := hs x (h2 x (by simp))
      obtain ⟨ys, rfl, hy⟩ := ih (fun z hz => h2 z (by simp [hz]))
      refine ⟨a :: ys, rfl, ?_⟩
      intro b hb
      rcases List.mem_cons.1 hb with rfl | hb
      · exact ha
      · exact hy b hb
  obtain ⟨ys, rfl, hy⟩ := this
  exact ⟨ys, rfl, hy⟩
theorem fits_i64 {l : List AV} (h : Fits (.int .i64) l) : ∃ n : Int, l = [.int .i64 n] ∧ (-9223372036854775808 ≤ n ∧ n ≤ 9223372036854775807) := by
  simp only [Fits] at h
  obtain ⟨n, rfl, h⟩ := h
  exact ⟨n, rfl, by simp [Lit.wf, IntKind.min, IntKind.max, IntKind.bits, IntKind.signed] at h; omega⟩
theorem fits_u8 {l : List AV} (h : Fits (.int .u8) l) : ∃ n : Nat, l = [.int .u8 n] ∧ n < 256 := by
  simp only [Fits] at h
  obtain ⟨n, rfl, h⟩ := h
  have : 0 ≤ n ∧ n < 256 := by simp [Lit.wf, IntKind.min, IntKind.max, IntKind.bits, IntKind.signed] at h; omega
  exact ⟨n.toNat, by congr 2; omega, by omega⟩
end Go.Proofs.Ytobcnochlkdpaaa
