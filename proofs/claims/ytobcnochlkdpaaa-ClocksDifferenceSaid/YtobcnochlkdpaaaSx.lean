/- Regions that draw their order, walked by hand: each order of two effects. -/
import Derived.Test.YtobcnochlkdpaaaSw
namespace Go.Proofs.Ytobcnochlkdpaaa
set_option linter.unusedSimpArgs false
set_option linter.unusedVariables false

structure AF (P : Program) (ro : Option Nat) (kp : Ent → Prop) (ops : Array Oper) (F : Env → List Ent → Prop) (f : Nat) (L : Array Bool) (env : Env) (σ : List Ent) : Prop where
  run : anyF P ro (AddsK kp) ops (fun e σ => ∃ env, lk env = e ∧ F env σ) f L (lk env) σ

section
variable {P : Program} {ro : Option Nat} {kp : Ent → Prop} {ops : Array Oper} {F : Env → List Ent → Prop} {f : Nat} {L L' : Array Bool} {env : Env} {σ : List Ent} {o : Oper}

theorem af_nil (hr : (Region.ready .any ops L).isEmpty = true) (h : F env σ) : AF P ro kp ops F 0 L env σ :=
  ⟨⟨List.isEmpty_iff.1 hr, env, rfl, h⟩⟩
/-- Ready, and waits for nothing that it does not name. -/
def readyFree (ops : Array Oper) (L : Array Bool) (i : Nat) : Bool := (Region.ready .any ops L).contains i && Region.free .any ops L i
theorem af_yld {v : AV} {d : Nat} (i : Nat) (hi : ops[i]? = some o) (hr : readyFree ops L i = true) (hd : o.dst = some d) (hL : L.setIfInBounds i true = L') (hy : Yld P ro (AddsK kp) ops o v (lk env) σ) (h : AF P ro kp ops F f L' ((d, v) :: env) σ) : AF P ro kp ops F (f + 1) L env σ := by
  subst hL
  simp only [readyFree, Bool.and_eq_true] at hr
  refine ⟨anyF_first AddsK.refl (fun _ _ _ => AddsK.trans) hi f L (lk env) σ (Region.free_spec hi hr.2) (by simpa using hr.1) hy ?_⟩
  rw [putF_lk, put_some hd]
  exact h.run
theorem af_is {v : AV} {d : Nat} (i : Nat) (hi : ops[i]? = some o) (hr : readyFree ops L i = true) (hgd : o.guard = none) (hd : o.dst = some d) (hL : L.setIfInBounds i true = L') (hg : ∀ σ', AddsK kp σ σ' → GOp P ro o env σ' (Is v σ')) (h : AF P ro kp ops F f L' ((d, v) :: env) σ) : AF P ro kp ops F (f + 1) L env σ :=
  af_yld i hi hr hd hL (.inl ⟨gF_none hgd, fun σ' hl => gopF_iff (hg σ' hl)⟩) h
/-- What a step of an effect asks. -/
structure Eff (P : Program) (ro : Option Nat) (kp : Ent → Prop) (ops : Array Oper) (F : Env → List Ent → Prop) (f : Nat) (L : Array Bool) (env : Env) (σ : List Ent) (i : Nat) : Prop where
  run : stepF P ro (AddsK kp) ops i (anyF P ro (AddsK kp) ops (fun e σ => ∃ env, lk env = e ∧ F env σ) f (L.setIfInBounds i true)) (lk env) σ
theorem eff_of {R : AV → List Ent → Prop} {i d : Nat} (hi : ops[i]? = some o) (hgd : o.guard = none) (hd : o.dst = some d) (hL : L.setIfInBounds i true = L') (hg : GOp P ro o env σ R) (h : ∀ v σ', R v σ' → AddsK kp σ σ' ∧ AF P ro kp ops F f L' ((d, v) :: env) σ') : Eff P ro kp ops F f L env σ i := by
  subst hL
  refine ⟨?_⟩
  unfold stepF
  simp only [hi]
  refine .inr ⟨gF_none hgd, .inr ⟨R, gopF_iff hg, fun v σ' hr => ⟨(h v σ' hr).1, ?_⟩⟩⟩
  rw [putF_lk, put_some hd]
  exact (h v σ' hr).2.run
theorem af_one {i : Nat} (hr : (Region.ready .any ops L == [i]) = true) (h : Eff P ro kp ops F f L env σ i) : AF P ro kp ops F (f + 1) L env σ := by
  have hr' := eq_of_beq hr
  refine ⟨fun h0 => ?_, fun j hj => ?_⟩
  · rw [hr'] at h0; cases h0
  · rw [hr', List.mem_singleton] at hj; subst hj; exact h.run
theorem af_two {i j : Nat} (hr : (Region.ready .any ops L == [i, j]) = true) (h : Eff P ro kp ops F f L env σ i) (h' : Eff P ro kp ops F f L env σ j) : AF P ro kp ops F (f + 1) L env σ := by
  have hr' := eq_of_beq hr
  refine ⟨fun h0 => ?_, fun k hk => ?_⟩
  · rw [hr'] at h0; cases h0
  · rw [hr'] at hk
    simp only [List.mem_cons, List.not_mem_nil, or_false] at hk
    rcases hk with rfl | rfl
    · exact h.run
    · exact h'.run

theorem ex_drawAF (kp : Ent → Prop) {mk : List Nat} {n : Nat} {Q : Exit → St → Prop} {l : List Oper} {id : Nat} (m : Nat) (hm : P.follows .mixedOrders = true) (hB : headTailB [] l m = true) (hd : (l.all fun o => dstOk o.dst n) = true)
    (h : AF P ro kp (l.take m).toArray (fun env σ => EXL P ro l.toArray (l.drop m) Q ⟨env, σ, mk, n⟩) m (Array.replicate m false) env σ) : EX P ro (.region id l.toArray true) Q ⟨env, σ, mk, n⟩ := by
  refine ⟨fun X M a w hs => ?_⟩
  refine wpIn_region_any hm ?_
  have hB0 := hB
  simp only [headTailB, Bool.and_eq_true, decide_eq_true_eq] at hB0
  obtain ⟨⟨⟨⟨_, _⟩, hpre⟩, htail⟩, hn⟩ := hB0
  have hd' : ∀ o ∈ l, dstOk o.dst n = true := fun o ho => List.all_eq_true.1 hd o ho
  have hany := h.run
  have := any_head (P := P) (ro := ro) (le := AddsK kp) AddsK.refl (nn := n) (ds := marksD mk) (Qr := postA X M Q) (g := l.length - m) (X := X) (M0 := M) hB hn hpre hd' (Q := fun e σ => ∃ env, lk env = e ∧ EXL P ro l.toArray (l.drop m) Q ⟨env, σ, mk, n⟩) ?_ m _ _ M (lk env) σ a _ (Goes.start hn) (Mem.le_refl M) ⟨hs.good.drew, hs.size, hs.defs, hs.env⟩ hany
  · rw [List.size_toArray]
    rwa [show m + (l.length - m) = l.length by omega] at this
  · intro M1 e σ a1 w1 hm1 hs1 hq
    obtain ⟨env, rfl, hx⟩ := hq
    have h1 := hx.run X M1 a1 w1 ⟨hs1.good, hs1.size, hs1.defs, hs1.env⟩
    have h2 := wpListIn_mono (fun _ _ _ hp => postA_mono hm1 (fun _ _ h => h) hp) _ _ _ h1
    have h3 := any_tail (l.drop m) m (fullB l m) (fun j => by simp [List.getElem?_drop]) (by rw [List.length_drop]; exact htail) a1 w1 h2
    rwa [List.length_drop] at h3
end

/-- What is owned, in another order. -/
theorem fin_perm {σ σ' : List Ent} {r : AV} {Q : AV → List Ent → Prop} (hp : σ.Perm σ') (h : Fin σ' r Q) : Fin σ r Q :=
  fun X M w u hg hr => h X M w u (hg.perm hp) hr
theorem ex_perm {P : Program} {ro : Option Nat} {c : Code} {Q : Exit → St → Prop} {env : Env} {σ σ' : List Ent} {mk : List Nat} {n : Nat} (hp : σ.Perm σ') (h : EX P ro c Q ⟨env, σ', mk, n⟩) : EX P ro c Q ⟨env, σ, mk, n⟩ :=
  ⟨fun X M a w hs => h.run X M a w ⟨hs.good.perm hp, hs.size, hs.defs, hs.env⟩⟩
theorem exl_perm {P : Program} {ro : Option Nat} {ops : Array Oper} {rest : List Oper} {Q : Exit → St → Prop} {env : Env} {σ σ' : List Ent} {mk : List Nat} {n : Nat} (hp : σ.Perm σ') (h : EXL P ro ops rest Q ⟨env, σ', mk, n⟩) : EXL P ro ops rest Q ⟨env, σ, mk, n⟩ :=
  ⟨fun X M a w hs => h.run X M a w ⟨hs.good.perm hp, hs.size, hs.defs, hs.env⟩⟩
end Go.Proofs.Ytobcnochlkdpaaa
