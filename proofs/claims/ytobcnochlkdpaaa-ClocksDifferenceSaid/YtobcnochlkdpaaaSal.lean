/- Regions that draw their order, all orders walked one by one; blocks named. -/
import Derived.Test.YtobcnochlkdpaaaSx
namespace Go.Proofs.Ytobcnochlkdpaaa
set_option linter.unusedSimpArgs false
set_option linter.unusedVariables false
section
variable {P : Program} {ro : Option Nat} {Q : Exit → St → Prop} {ops : Array Oper}
theorem opIn_mono {F : Fence} {n : Nat} {o : Oper} {a : Act} {w : World} {K1 K2 : Act → World → Prop} {Q1 Q2 : Exit → Act → World → Prop} (hk : ∀ a w, K1 a w → K2 a w) (hq : ∀ e a w, e ≠ .normal → Q1 e a w → Q2 e a w) (h : o.wpIn F n P a w K1 Q1) : o.wpIn F n P a w K2 Q2 := by
  unfold Oper.wpIn at h ⊢
  refine ⟨h.1, ?_⟩
  have h2 := h.2
  generalize (o.semAt F.round a.eval).run P w = r at h2
  cases r with
  | ok nx w' =>
    cases nx <;> simp only [Oper.uponIn] at h2 ⊢ <;> first
      | exact hk _ _ h2
      | exact ⟨h2.1, CallsIn.mono h2.2 (fun e w' he => by cases e <;> first | exact hk _ _ he | exact hq _ _ _ (by intro hn; cases hn) he | exact let ⟨a, w, h⟩ := he; ⟨a, w, hq _ _ _ (by intro hn; cases hn) h⟩)⟩
      | exact ⟨h2.1, RowsIn.mono h2.2 (fun _ _ he => hk _ _ he)⟩
      | exact ⟨h2.1, RoundIn.mono h2.2 (fun e w' he => by cases e <;> first | exact hk _ _ he | exact hq _ _ _ (by intro hn; cases hn) he | exact let ⟨a, w, h⟩ := he; ⟨a, w, hq _ _ _ (by intro hn; cases hn) h⟩)⟩
  | halt x w' => cases x <;> simp only [Oper.uponIn] at h2 ⊢ <;> first | exact hq _ _ _ (by intro hn; cases hn) h2
/-- What is left of a region, in whatever order. -/
def exaF (P : Program) (ro : Option Nat) (ops : Array Oper) (Q : Exit → St → Prop) : Nat → Array Bool → St → Prop
  | 0, L, s => Region.ready .any ops L = [] ∧ Q .normal s
  | f + 1, L, s => (Region.ready .any ops L = [] → Q .normal s) ∧ ∀ i ∈ Region.ready .any ops L, ∃ o, ops[i]? = some o ∧ EXL P ro ops [o] (thenA (exaF P ro ops Q f (L.setIfInBounds i true)) fun _ _ => False) s
structure EXA (P : Program) (ro : Option Nat) (ops : Array Oper) (f : Nat) (L : Array Bool) (Q : Exit → St → Prop) (s : St) : Prop where
  run : exaF P ro ops Q f L s
theorem exaF_any {X : Fx} {M0 : Mem} : ∀ (f : Nat) (L : Array Bool) (M : Mem) (s : St) (a : Act) (w : World), M0.le M → Sim X M s a w → exaF P ro ops Q f L s → wpAnyIn (fence ro) 0 P .any ops (postA X M0 Q) f L a w
  | 0, L, M, s, a, w, hm0, hs, h => ⟨h.1, M, s, hm0, hs, h.2⟩
  | f + 1, L, M, s, a, w, hm0, hs, h => by
    refine ⟨fun h0 => ⟨M, s, hm0, hs, h.1 h0⟩, fun i hi => ?_⟩
    obtain ⟨o, ho, hx⟩ := h.2 i hi
    have h1 := hx.run X M a w hs
    unfold wpListIn at h1
    unfold wpOpIn
    simp only [ho]
    have key : ∀ a w, postA X M (thenA (exaF P ro ops Q f (L.setIfInBounds i true)) fun _ _ => False) .normal a w → wpAnyIn (fence ro) 0 P .any ops (postA X M0 Q) f (L.setIfInBounds i true) a w := by
      rintro a2 w2 ⟨M2, s2, hm, hs2, hq⟩
      exact exaF_any f _ M2 s2 a2 w2 (Mem.le_trans hm0 hm) hs2 hq
    split
    · rename_i hw
      rw [if_pos hw] at h1
      refine opIn_mono (fun a2 w2 hk => ?_) ?_ h1
      · unfold wpListIn at hk; exact key a2 w2 hk
      · rintro e a2 w2 hne ⟨M2, s2, hm, hs2, hq⟩
        cases e with
        | normal => exact absurd rfl hne
        | exit id => exact hq.elim
        | goto l => exact hq.elim
        | ret => exact hq.elim
        | panic ch => exact hq.elim
        | outgrown => exact hq.elim
    · rename_i hw
      rw [if_neg hw] at h1
      exact ⟨h1.1, key _ _ (by have := h1.2; unfold wpListIn at this; exact this)⟩
/-- A region that draws its order: all of its orders are walked. -/
theorem ex_all {id : Nat} {l : List Oper} {s : St} (hm : P.follows .mixedOrders = true) (h : EXA P ro l.toArray l.length (Array.replicate l.length false) Q s) : EX P ro (.region id l.toArray true) Q s := by
  refine ⟨fun X M a w hs => ?_⟩
  refine wpIn_region_any hm ?_
  rw [List.size_toArray]
  exact exaF_any (M0 := M) _ _ M s a _ (Mem.le_refl M) ⟨hs.good.drew, hs.size, hs.defs, hs.env⟩ h.run
variable {f : Nat} {L : Array Bool} {s : St} {o o2 o3 : Oper} {i j k : Nat}
abbrev afterA (P : Program) (ro : Option Nat) (ops : Array Oper) (f : Nat) (L : Array Bool) (Q : Exit → St → Prop) (i : Nat) : Exit → St → Prop := thenA (EXA P ro ops f (L.setIfInBounds i true) Q) fun _ _ => False
theorem exl_unfold {l : List Oper} (h : EXL P ro ops l (afterA P ro ops f L Q i) s) : EXL P ro ops l (thenA (exaF P ro ops Q f (L.setIfInBounds i true)) fun _ _ => False) s :=
  ⟨fun X M a w hs => wpListIn_mono (fun e a w hp => postA_mono (Mem.le_refl M) (fun e s hq => by cases e <;> first | exact hq.run | exact hq) hp) _ _ _ (h.run X M a w hs)⟩
/-- The same by recursion on lists, so that the elaborator reckons it. -/
def rdyGo (L : List Bool) : List Oper → Nat → List Nat
  | [], _ => []
  | o :: r, i => if (!L.getD i true && (o.after.toList.all fun e => !Region.binds .any e || L.getD e.on false)) = true then i :: rdyGo L r (i + 1) else rdyGo L r (i + 1)
theorem getD_list {L : Array Bool} {i : Nat} {b : Bool} : L.getD i b = L.toList.getD i b := by
  rw [Array.getD_eq_getD_getElem?, List.getD_eq_getElem?_getD, Array.getElem?_toList]
theorem rdyGo_spec {L : Array Bool} {ops : Array Oper} : ∀ (r : List Oper) (k : Nat), (∀ j, r[j]? = ops[k + j]?) → rdyGo L.toList r k = (List.range' k r.length).filter fun i => !L.getD i true && ((ops[i]?).map (·.after.all fun e => !Region.binds .any e || L.getD e.on false)).getD false
  | [], k, _ => rfl
  | o :: r, k, h => by
    have h0 : ops[k]? = some o := by simpa using (h 0).symm
    have ih := rdyGo_spec (L := L) r (k + 1) fun j => by have := h (j + 1); simpa [Nat.add_assoc, Nat.add_comm 1 j] using this
    rw [rdyGo, ih, List.length_cons, List.range'_succ, List.filter_cons, h0, Option.map_some, Option.getD_some, getD_list, Array.all_toList]
    simp only [getD_list]
theorem rdy_eq {ops : Array Oper} {L : Array Bool} : Region.ready .any ops L = rdyGo L.toList ops.toList 0 := by
  rw [rdyGo_spec (ops := ops) _ 0 (fun j => by simp), Region.ready, List.range_eq_range']
  simp
theorem after_go (h : EXA P ro ops f (L.setIfInBounds i true) Q s) : afterA P ro ops f L Q i .normal s := h
theorem exa_nil (hr : rdyGo L.toList ops.toList 0 = []) (h : Q .normal s) : EXA P ro ops f L Q s := by
  rw [← rdy_eq] at hr
  refine ⟨?_⟩
  cases f with
  | zero => exact ⟨hr, h⟩
  | succ f => exact ⟨fun _ => h, fun i hi => by rw [hr] at hi; cases hi⟩
theorem exa_one (hr : rdyGo L.toList ops.toList 0 = [i]) (ho : ops[i]? = some o) (h : EXL P ro ops [o] (afterA P ro ops f L Q i) s) : EXA P ro ops (f + 1) L Q s := by
  rw [← rdy_eq] at hr
  refine ⟨fun h0 => (by rw [hr] at h0; cases h0), fun x hx => ?_⟩
  rw [hr, List.mem_singleton] at hx
  subst hx
  exact ⟨o, ho, exl_unfold h⟩
theorem exa_two (hr : rdyGo L.toList ops.toList 0 = [i, j]) (ho : ops[i]? = some o) (ho2 : ops[j]? = some o2) (h : EXL P ro ops [o] (afterA P ro ops f L Q i) s) (h2 : EXL P ro ops [o2] (afterA P ro ops f L Q j) s) : EXA P ro ops (f + 1) L Q s := by
  rw [← rdy_eq] at hr
  refine ⟨fun h0 => (by rw [hr] at h0; cases h0), fun x hx => ?_⟩
  rw [hr] at hx
  simp only [List.mem_cons, List.not_mem_nil, or_false] at hx
  rcases hx with rfl | rfl
  · exact ⟨o, ho, exl_unfold h⟩
  · exact ⟨o2, ho2, exl_unfold h2⟩
theorem exa_three (hr : rdyGo L.toList ops.toList 0 = [i, j, k]) (ho : ops[i]? = some o) (ho2 : ops[j]? = some o2) (ho3 : ops[k]? = some o3) (h : EXL P ro ops [o] (afterA P ro ops f L Q i) s) (h2 : EXL P ro ops [o2] (afterA P ro ops f L Q j) s) (h3 : EXL P ro ops [o3] (afterA P ro ops f L Q k) s) : EXA P ro ops (f + 1) L Q s := by
  rw [← rdy_eq] at hr
  refine ⟨fun h0 => (by rw [hr] at h0; cases h0), fun x hx => ?_⟩
  rw [hr] at hx
  simp only [List.mem_cons, List.not_mem_nil, or_false] at hx
  rcases hx with rfl | rfl | rfl
  · exact ⟨o, ho, exl_unfold h⟩
  · exact ⟨o2, ho2, exl_unfold h2⟩
  · exact ⟨o3, ho3, exl_unfold h3⟩
end
end Go.Proofs.Ytobcnochlkdpaaa
