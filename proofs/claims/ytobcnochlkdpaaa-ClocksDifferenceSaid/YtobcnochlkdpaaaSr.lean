/- A logic of abstract values: regions that draw their order, walked in another order than the text's. -/
import Derived.Test.YtobcnochlkdpaaaSq
namespace Go.Proofs.Ytobcnochlkdpaaa
set_option linter.unusedSimpArgs false
set_option linter.unusedVariables false

section
variable {P : Program} {ro : Option Nat} {le : List Ent → List Ent → Prop} {ops : Array Oper}
/-- An order of the operations, by their places; those at the list ef's turns turn what is owned, and come up alone. -/
def lexO (ef : List Nat) (ops : Array Oper) : Nat → List Nat → Array Bool → Bool
  | _, [], L => (Region.ready .any ops L).isEmpty
  | k, i :: r, L => (if ef.contains k then Region.ready .any ops L == [i] else (Region.ready .any ops L).contains i && Region.free .any ops L i) && lexO ef ops (k + 1) r (L.setIfInBounds i true)
theorem anyF_ord {ef : List Nat} {Q : EnvF → List Ent → Prop} (hrf : ∀ a, le a a) (htr : ∀ a b c, le a b → le b c → le a c) : ∀ (ord : List Nat) (l : List Oper) (k : Nat) (L : Array Bool) (e : EnvF) (σ : List Ent), l.map some = ord.map (ops[·]?) →
    lexO ef ops k ord L = true → WQ P ro le ef ops Q k l e σ → anyF P ro le ops Q l.length L e σ
  | [], [], _, _, _, _, _, hB, h => ⟨by simpa [lexO] using hB, h⟩
  | [], _ :: _, _, _, _, _, hl, _, _ => by cases hl
  | _ :: _, [], _, _, _, _, hl, _, _ => by cases hl
  | j :: ord, o :: l, k, L, e, σ, hl, hB, h => by
    simp only [List.map_cons, List.cons.injEq] at hl
    obtain ⟨h0, hl'⟩ := hl
    simp only [lexO, Bool.and_eq_true] at hB
    obtain ⟨hr, hB'⟩ := hB
    rcases h with ⟨he, hg, R, hR, hK⟩ | ⟨he, v, hy, hK⟩
    · rw [if_pos he] at hr
      have hr' : Region.ready .any ops L = [j] := by simpa using hr
      refine ⟨fun h => (by rw [hr'] at h; cases h), fun i hi => ?_⟩
      rw [hr', List.mem_singleton] at hi
      subst hi
      unfold stepF
      simp only [← h0]
      exact .inr ⟨hg, .inr ⟨R, hR, fun v σ' hr2 => ⟨(hK v σ' hr2).1, anyF_ord hrf htr ord l (k + 1) _ _ _ hl' hB' (hK v σ' hr2).2⟩⟩⟩
    · rw [if_neg (by rw [he]; simp), Bool.and_eq_true] at hr
      exact anyF_first hrf htr h0.symm l.length L e σ (Region.free_spec h0.symm hr.2) (by simpa using hr.1) hy
        (anyF_ord hrf htr ord l (k + 1) _ _ _ hl' hB' hK)

/-- The operations at the places of a list. -/
def pick (l : List Oper) (ord : List Nat) : List Oper := ord.filterMap (l[·]?)
theorem pick_map {l : List Oper} {m : Nat} : ∀ {ord : List Nat}, m ≤ l.length → (ord.all fun i => Nat.blt i m) = true → (pick l ord).map some = ord.map ((l.take m).toArray[·]?)
  | [], _, _ => rfl
  | i :: ord, hm, h => by
    simp only [List.all_cons, Bool.and_eq_true] at h
    have hi : i < m := by simpa using h.1
    have e : l[i]? = some l[i] := List.getElem?_eq_getElem (by omega)
    have e2 : (l.take m).toArray[i]? = some l[i] := by simp [List.getElem?_take, hi, e]
    have ih := pick_map hm h.2
    unfold pick at ih ⊢
    rw [List.filterMap_cons_some e, List.map_cons, List.map_cons, ih, e2]

theorem ex_drawLO (kp : Ent → Prop) {env : Env} {σ : List Ent} {mk : List Nat} {n : Nat} {Q : Exit → St → Prop} {l : List Oper} {id : Nat} (m : Nat) (ord ef : List Nat) (hm : P.follows .mixedOrders = true) (hB : headTailB [] l m = true) (hd : (l.all fun o => dstOk o.dst n) = true)
    (hO : lexO ef (l.take m).toArray 0 ord (Array.replicate m false) = true) (hp : ((ord.all fun i => Nat.blt i m) && Nat.beq ord.length m) = true)
    (h : WL P ro kp ef (l.take m).toArray (fun env σ => EXL P ro l.toArray (l.drop m) Q ⟨env, σ, mk, n⟩) 0 (pick l ord) env σ) : EX P ro (.region id l.toArray true) Q ⟨env, σ, mk, n⟩ := by
  refine ⟨fun X M a w hs => ?_⟩
  refine wpIn_region_any hm ?_
  have hB0 := hB
  simp only [headTailB, Bool.and_eq_true, decide_eq_true_eq] at hB0
  obtain ⟨⟨⟨⟨_, _⟩, hpre⟩, htail⟩, hn⟩ := hB0
  rw [Bool.and_eq_true] at hp
  obtain ⟨hp1, hp2⟩ := hp
  have hol : ord.length = m := by simpa using hp2
  have hd' : ∀ o ∈ l, dstOk o.dst n = true := fun o ho => List.all_eq_true.1 hd o ho
  have hpm := pick_map hn hp1
  have hlen : (pick l ord).length = m := by
    have := congrArg List.length hpm
    simp only [List.length_map] at this
    omega
  have hany := anyF_ord (le := AddsK kp) (AddsK.refl) (fun _ _ _ => AddsK.trans) ord (pick l ord) 0 (Array.replicate m false) (lk env) σ hpm hO h.run
  rw [hlen] at hany
  have := any_head (P := P) (ro := ro) (le := AddsK kp) AddsK.refl (nn := n) (ds := marksD mk) (Qr := postA X M Q) (g := l.length - m) (X := X) (M0 := M) hB hn hpre hd' (Q := fun e σ => ∃ env, lk env = e ∧ EXL P ro l.toArray (l.drop m) Q ⟨env, σ, mk, n⟩) ?_ m _ _ M (lk env) σ a _ (Goes.start hn) (Mem.le_refl M) ⟨hs.good.drew, hs.size, hs.defs, hs.env⟩ hany
  · rw [List.size_toArray]
    rwa [show m + (l.length - m) = l.length by omega] at this
  · intro M1 e σ a1 w1 hm1 hs1 hq
    obtain ⟨env, rfl, hx⟩ := hq
    have h1 := hx.run X M1 a1 w1 ⟨hs1.good, hs1.size, hs1.defs, hs1.env⟩
    have h2 := wpListIn_mono (fun _ _ _ hp => postA_mono hm1 (fun _ _ h => h) hp) _ _ _ h1
    have h3 := any_tail (l.drop m) m (fullB l m) (fun j => by simp [List.getElem?_drop]) (by rw [List.length_drop]; exact htail) a1 w1 h2
    rwa [List.length_drop] at h3
end

/-- Slots in which the value v, also within a compound, is read as x. -/
inductive SealEnvC (env : Env) (v : Value) (x : AV) : Env → Prop
  | nil : SealEnvC env v x []
  | cons {t : Nat} {y y' : AV} {r : Env} (h : lk env t = some y) (hc : Cv v x [y] [y']) (k : SealEnvC env v x r) : SealEnvC env v x ((t, y') :: r)
theorem SealEnvC.rel {v : Value} {x : AV} {env env' : Env} {M M' : Mem} {tmps : Array Value} (hm : M.le M') (hx : VRel M' x v) (he : EnvRel M env tmps) (h : SealEnvC env v x env') : EnvRel M' env' tmps := by
  induction h with
  | nil => intro t y hy; simp [lk] at hy
  | @cons t y y' r h hc k ih =>
    intro u z hz
    by_cases e : t = u
    · subst e
      rw [lk_cons_same] at hz
      cases hz
      obtain ⟨q, h1, h2⟩ := he t y h
      have h3 := hc.rel hx (M := M') (vs := [q]) (by simp only [VRels]; exact ⟨q, [], rfl, VRel.mono hm _ _ h2, rfl⟩)
      simp only [VRels] at h3
      obtain ⟨q', r', e1, h4, e2⟩ := h3
      cases e1
      exact ⟨q, h1, h4⟩
    · rw [lk_cons_ne e] at hz
      exact ih u z hz
theorem ex_shutC {P : Program} {ro : Option Nat} {env : Env} {σ σ1 σ' : List Ent} {c : Code} {Q : Exit → St → Prop} {mk : List Nat} {n : Nat} {v : Value} {e : TypeId} {sz : Nat} {l : List (List AV)} {env' : Env} (hr : Rem σ (.row v e sz l) σ1) (hs : ShutEnts v (.dl sz l) σ1 σ') (he : SealEnvC env v (.dl sz l) env') (h : EX P ro c Q ⟨env', σ', mk, n⟩) : EX P ro c Q ⟨env, σ, mk, n⟩ :=
  ⟨fun X M a w hs' => by
    obtain ⟨M1, h1, h2, h3⟩ := hs'.good.shut hr
    refine Go.wpIn_mono (h.run X M1 a w ⟨h2.shutE h3 hs, hs'.size, hs'.defs, he.rel h1 h3 hs'.env⟩) ?_
    rintro e a' w' ⟨M', s', hm, hs2, hq⟩
    exact ⟨M', s', Mem.le_trans h1 hm, hs2, hq⟩⟩
theorem exl_shutC {P : Program} {ro : Option Nat} {env : Env} {σ σ1 σ' : List Ent} {ops : Array Oper} {rest : List Oper} {Q : Exit → St → Prop} {mk : List Nat} {n : Nat} {v : Value} {e : TypeId} {sz : Nat} {l : List (List AV)} {env' : Env} (hr : Rem σ (.row v e sz l) σ1) (hs : ShutEnts v (.dl sz l) σ1 σ') (he : SealEnvC env v (.dl sz l) env') (h : EXL P ro ops rest Q ⟨env', σ', mk, n⟩) : EXL P ro ops rest Q ⟨env, σ, mk, n⟩ :=
  ⟨fun X M a w hs' => by
    obtain ⟨M1, h1, h2, h3⟩ := hs'.good.shut hr
    exact wpListIn_mono (fun _ _ _ ⟨M', s', hm, hs2, hq⟩ => ⟨M', s', Mem.le_trans h1 hm, hs2, hq⟩) _ _ _ (h.run X M1 a w ⟨h2.shutE h3 hs, hs'.size, hs'.defs, he.rel h1 h3 hs'.env⟩)⟩
end Go.Proofs.Ytobcnochlkdpaaa
