/- Regions that draw their order: values as soon as they are ready, effects in each order that may come. -/
import Derived.Test.YtobcnochlkdpaaaSal
namespace Go.Proofs.Ytobcnochlkdpaaa
set_option linter.unusedSimpArgs false
set_option linter.unusedVariables false
section
variable {P : Program} {ro : Option Nat} {kp : Ent → Prop} {ops : Array Oper} {F : Env → List Ent → Prop} {f : Nat} {L : Array Bool} {env : Env} {σ : List Ent} {o o2 o3 : Oper} {i j k : Nat}
theorem anyF_sound {le : List Ent → List Ent → Prop} {nn : Nat} {ds : List Deferred} {Qr : Exit → Act → World → Prop} {Q : EnvF → List Ent → Prop} {X : Fx} (hrf : ∀ a, le a a) (hd : ∀ o ∈ ops.toList, dstOk o.dst nn = true) {M0 : Mem} (hQ : ∀ M e σ a w, M0.le M → SimF X M e σ nn ds a w → Q e σ → Qr .normal a w) :
    ∀ f L (M : Mem) e σ a w, M0.le M → SimF X M e σ nn ds a w → anyF P ro le ops Q f L e σ → wpAnyIn (fence ro) 0 P .any ops Qr f L a w
  | 0, L, M, e, σ, a, w, hm, hs, h => ⟨h.1, hQ M e σ a w hm hs h.2⟩
  | f + 1, L, M, e, σ, a, w, hm, hs, h => by
    refine ⟨fun h0 => hQ M e σ a w hm hs (h.1 h0), fun i hi => ?_⟩
    have h2 := h.2 i hi
    obtain ⟨_, o, ho, _⟩ := mem_ready.1 hi
    have hol : o ∈ ops.toList := by
      have : ops.toList[i]? = some o := by simpa using ho
      exact List.mem_of_getElem? this
    unfold stepF at h2
    simp only [ho] at h2
    unfold wpOpIn
    simp only [ho]
    rcases h2 with ⟨h3, h4⟩ | ⟨h3, ⟨v, hq, hk⟩ | ⟨R, hR, hk⟩⟩
    · have hw := hs.wanted h3
      simp only [hw, Bool.false_eq_true, if_false]
      exact ⟨fun f _ => about_wide f ro, anyF_sound hrf hd hQ f _ M _ σ _ w hm (hs.put (Mem.le_refl M) hs.good (hd o hol) (by simp [VRel])) h4⟩
    · have hw := hs.wanted h3
      simp only [hw, if_true]
      refine hq σ (hrf σ) X M a w hs.good (fun x _ v hv => hs.eval hv) _ _ ?_
      rintro M2 u w' v' σ' hm2 hg2 hv2 ⟨⟩
      exact anyF_sound hrf hd hQ f _ M2 _ _ _ w' (Mem.le_trans hm hm2) (hs.put hm2 hg2 (hd o hol) hv2) hk
    · have hw := hs.wanted h3
      simp only [hw, if_true]
      refine hR X M a w hs.good (fun x _ v hv => hs.eval hv) _ _ ?_
      intro M2 u w' v σ' hm2 hg2 hv2 hr2
      exact anyF_sound hrf hd hQ f _ M2 _ σ' _ w' (Mem.le_trans hm hm2) (hs.put hm2 hg2 (hd o hol) hv2) (hk v σ' hr2).2
structure DRF (P : Program) (ro : Option Nat) (kp : Ent → Prop) (ef : List Nat) (ops : Array Oper) (F : Env → List Ent → Prop) (f : Nat) (L : Array Bool) (env : Env) (σ : List Ent) : Prop where
  run : anyF P ro (AddsK kp) ops (fun e σ => ∃ env, lk env = e ∧ F env σ) f L (lk env) σ
/-- One operation, its turn come. -/
structure DRS (P : Program) (ro : Option Nat) (kp : Ent → Prop) (o : Oper) (env : Env) (σ : List Ent) (K : Env → List Ent → Prop) : Prop where
  run : o.guard = none ∧ ∃ R, GOp P ro o env σ R ∧ ∀ v σ', R v σ' → AddsK kp σ σ' ∧ K (put o.dst v env) σ'
/-- One operation that yields a value, whatever is added. -/
structure DRV (P : Program) (ro : Option Nat) (kp : Ent → Prop) (ops : Array Oper) (o : Oper) (env : Env) (σ : List Ent) (K : Env → List Ent → Prop) : Prop where
  run : ∃ v, Yld P ro (AddsK kp) ops o v (lk env) σ ∧ K (put o.dst v env) σ
theorem ex_drf {id : Nat} {l : List Oper} {mk : List Nat} {n : Nat} {Q : Exit → St → Prop} (kp : Ent → Prop) (ef : List Nat) (hm : P.follows .mixedOrders = true) (hd : (l.all fun o => dstOk o.dst n) = true)
    (h : DRF P ro kp ef l.toArray (fun env σ => Q .normal ⟨env, σ, mk, n⟩) l.length (Array.replicate l.length false) env σ) : EX P ro (.region id l.toArray true) Q ⟨env, σ, mk, n⟩ := by
  refine ⟨fun X M a w hs => ?_⟩
  refine wpIn_region_any hm ?_
  rw [List.size_toArray]
  refine anyF_sound (le := AddsK kp) AddsK.refl (nn := n) (ds := marksD mk) (X := X) (M0 := M) (fun o ho => List.all_eq_true.1 hd o ho) ?_ _ _ M (lk env) σ a _ (Mem.le_refl M) ⟨hs.good.drew, hs.size, hs.defs, hs.env⟩ h.run
  rintro M1 e σ a1 w1 hm1 hs1 ⟨env, rfl, hx⟩
  exact ⟨M1, ⟨env, σ, mk, n⟩, hm1, ⟨hs1.good, hs1.size, hs1.defs, hs1.env⟩, hx⟩
theorem ex_drfT {id : Nat} {l : List Oper} {mk : List Nat} {n : Nat} {Q : Exit → St → Prop} (kp : Ent → Prop) (ef : List Nat) (m : Nat) (hm : P.follows .mixedOrders = true) (hB : headTailB [] l m = true) (hd : (l.all fun o => dstOk o.dst n) = true)
    (h : DRF P ro kp ef (l.take m).toArray (fun env σ => EXL P ro l.toArray (l.drop m) Q ⟨env, σ, mk, n⟩) m (Array.replicate m false) env σ) : EX P ro (.region id l.toArray true) Q ⟨env, σ, mk, n⟩ :=
  ex_drawAF kp m hm hB hd ⟨h.run⟩
theorem ex_joinP {x y : Code} {Q : Exit → St → Prop} {s : St} {α : Type} (f : α → St) (h1 : EX P ro x (thenA (fun s => ∃ a σ', s.σ.Perm σ' ∧ St.le ⟨s.env, σ', s.marks, s.n⟩ (f a)) Q) s) (h2 : ∀ a, EX P ro y Q (f a)) : EX P ro (.seq x y) Q s :=
  ex_seq (ex_mono h1 fun e s h => by
    cases e with
    | normal => obtain ⟨a, σ', hp, ha⟩ := h; exact ex_perm hp (ex_weaken ha (h2 a))
    | exit id => exact h
    | goto l => exact h
    | ret => exact h
    | panic ch => exact h
    | outgrown => exact h)
theorem ex_joinT {x y : Code} {Q : Exit → St → Prop} {s : St} {α : Type} (f : α → St) (h1 : EX P ro x (thenA (fun s => ∃ a σ', s.σ.Perm σ' ∧ St.le ⟨s.env, σ', s.marks, s.n⟩ (f a)) Q) s) (h2 : ∀ a, EX P ro y Q (f a)) : EX P ro x (thenA (EX P ro y Q) Q) s :=
  ex_mono h1 fun e s h => by
    cases e with
    | normal => obtain ⟨a, σ', hp, ha⟩ := h; exact ex_perm hp (ex_weaken ha (h2 a))
    | exit id => exact h
    | goto l => exact h
    | ret => exact h
    | panic ch => exact h
    | outgrown => exact h
/-- The first one ready that is no effect. -/
def nextV (ef : List Nat) : List Nat → Option Nat
  | [] => none
  | i :: r => if ef.contains i then nextV ef r else some i
theorem nextV_mem {ef : List Nat} : ∀ {l : List Nat} {i : Nat}, nextV ef l = some i → i ∈ l
  | [], _, h => by cases h
  | a :: r, i, h => by
    unfold nextV at h
    split at h
    · exact List.mem_cons_of_mem _ (nextV_mem h)
    · cases h; exact List.mem_cons_self
theorem drf_val {ef : List Nat} (hn : nextV ef (rdyGo L.toList ops.toList 0) = some i) (ho : ops[i]? = some o) (hf : Region.free .any ops L i = true) (h : DRV P ro kp ops o env σ fun env σ => DRF P ro kp ef ops F f (L.setIfInBounds i true) env σ) : DRF P ro kp ef ops F (f + 1) L env σ := by
  obtain ⟨v, hy, hk⟩ := h.run
  refine ⟨anyF_first (AddsK.refl) (fun _ _ _ => AddsK.trans) ho f L _ _ (Region.free_spec ho hf) (by rw [rdy_eq]; exact nextV_mem hn) hy ?_⟩
  rw [putF_lk]; exact hk.run
theorem step_of {ef : List Nat} (hs : DRS P ro kp o env σ fun env σ => DRF P ro kp ef ops F f (L.setIfInBounds i true) env σ) (ho : ops[i]? = some o) : stepF P ro (AddsK kp) ops i (anyF P ro (AddsK kp) ops (fun e σ => ∃ env, lk env = e ∧ F env σ) f (L.setIfInBounds i true)) (lk env) σ := by
  obtain ⟨hg, R, hR, hk⟩ := hs.run
  unfold stepF
  simp only [ho]
  exact .inr ⟨gF_none hg, .inr ⟨R, gopF_iff hR, fun v σ' hr => ⟨(hk v σ' hr).1, by rw [putF_lk]; exact (hk v σ' hr).2.run⟩⟩⟩
theorem drf_nil {ef : List Nat} (hr : rdyGo L.toList ops.toList 0 = []) (h : F env σ) : DRF P ro kp ef ops F f L env σ := by
  rw [← rdy_eq] at hr
  refine ⟨?_⟩
  cases f with
  | zero => exact ⟨hr, _, rfl, h⟩
  | succ f => exact ⟨fun _ => ⟨_, rfl, h⟩, fun i hi => by rw [hr] at hi; cases hi⟩
theorem drf_one {ef : List Nat} (hr : rdyGo L.toList ops.toList 0 = [i]) (ho : ops[i]? = some o) (h : DRS P ro kp o env σ fun env σ => DRF P ro kp ef ops F f (L.setIfInBounds i true) env σ) : DRF P ro kp ef ops F (f + 1) L env σ := by
  rw [← rdy_eq] at hr
  refine ⟨fun h0 => (by rw [hr] at h0; cases h0), fun x hx => ?_⟩
  rw [hr, List.mem_singleton] at hx
  subst hx
  exact step_of h ho
theorem drf_two {ef : List Nat} (hr : rdyGo L.toList ops.toList 0 = [i, j]) (ho : ops[i]? = some o) (ho2 : ops[j]? = some o2) (h : DRS P ro kp o env σ fun env σ => DRF P ro kp ef ops F f (L.setIfInBounds i true) env σ) (h2 : DRS P ro kp o2 env σ fun env σ => DRF P ro kp ef ops F f (L.setIfInBounds j true) env σ) : DRF P ro kp ef ops F (f + 1) L env σ := by
  rw [← rdy_eq] at hr
  refine ⟨fun h0 => (by rw [hr] at h0; cases h0), fun x hx => ?_⟩
  rw [hr] at hx
  simp only [List.mem_cons, List.not_mem_nil, or_false] at hx
  rcases hx with rfl | rfl
  · exact step_of h ho
  · exact step_of h2 ho2
theorem drf_three {ef : List Nat} (hr : rdyGo L.toList ops.toList 0 = [i, j, k]) (ho : ops[i]? = some o) (ho2 : ops[j]? = some o2) (ho3 : ops[k]? = some o3) (h : DRS P ro kp o env σ fun env σ => DRF P ro kp ef ops F f (L.setIfInBounds i true) env σ) (h2 : DRS P ro kp o2 env σ fun env σ => DRF P ro kp ef ops F f (L.setIfInBounds j true) env σ) (h3 : DRS P ro kp o3 env σ fun env σ => DRF P ro kp ef ops F f (L.setIfInBounds k true) env σ) : DRF P ro kp ef ops F (f + 1) L env σ := by
  rw [← rdy_eq] at hr
  refine ⟨fun h0 => (by rw [hr] at h0; cases h0), fun x hx => ?_⟩
  rw [hr] at hx
  simp only [List.mem_cons, List.not_mem_nil, or_false] at hx
  rcases hx with rfl | rfl | rfl
  · exact step_of h ho
  · exact step_of h2 ho2
  · exact step_of h3 ho3
variable {K : Env → List Ent → Prop}
theorem drv_core {v : AV} {d : Nat} (hd : o.dst = some d) (hy : Yld P ro (AddsK kp) ops o v (lk env) σ) (h : K ((d, v) :: env) σ) : DRV P ro kp ops o env σ K := ⟨v, hy, by rw [put_some hd]; exact h⟩
theorem drv_is {v : AV} {d : Nat} (hgd : o.guard = none) (hd : o.dst = some d) (hg : ∀ σ', AddsK kp σ σ' → GOp P ro o env σ' (Is v σ')) (h : K ((d, v) :: env) σ) : DRV P ro kp ops o env σ K :=
  drv_core hd (.inl ⟨gF_none hgd, fun σ' hl => gopF_iff (hg σ' hl)⟩) h
theorem drv_isW {v : AV} {b want : Bool} {d : Nat} (hgd : guardA ops o env = some (.bool b, want)) (hb : b = want) (hd : o.dst = some d) (hg : ∀ σ', AddsK kp σ σ' → GOp P ro o env σ' (Is v σ')) (h : K ((d, v) :: env) σ) : DRV P ro kp ops o env σ K :=
  drv_core hd (.inl ⟨by rw [gF_guardA hgd, hb]; simp, fun σ' hl => gopF_iff (hg σ' hl)⟩) h
theorem drv_isB {e : Bool} {d : Nat} (hgd : o.guard = none) (hd : o.dst = some d) (hg : ∀ σ', AddsK kp σ σ' → GOp P ro o env σ' (Is (.bool e) σ')) (h : ∀ b, BV e b → K ((d, .bool b) :: env) σ) : DRV P ro kp ops o env σ K := drv_is hgd hd hg (h e (.mk e))
theorem drv_isBW {e b want : Bool} {d : Nat} (hgd : guardA ops o env = some (.bool b, want)) (hb : b = want) (hd : o.dst = some d) (hg : ∀ σ', AddsK kp σ σ' → GOp P ro o env σ' (Is (.bool e) σ')) (h : ∀ b, BV e b → K ((d, .bool b) :: env) σ) : DRV P ro kp ops o env σ K := drv_isW hgd hb hd hg (h e (.mk e))
theorem drv_skip {b want : Bool} {d : Nat} (hgd : guardA ops o env = some (.bool b, want)) (hb : b = !want) (hd : o.dst = some d) (h : K ((d, .raw undef) :: env) σ) : DRV P ro kp ops o env σ K :=
  drv_core hd (.inr ⟨by rw [gF_guardA hgd, hb]; cases want <;> rfl, rfl⟩) h
theorem drv_skip_raw {want : Bool} {d : Nat} (hgd : guardA ops o env = some (.raw undef, want)) (hd : o.dst = some d) (h : K ((d, .raw undef) :: env) σ) : DRV P ro kp ops o env σ K := drv_core hd (.inr ⟨gF_raw hgd, rfl⟩) h
theorem drv_case {b want : Bool} (_ : guardA ops o env = some (.bool b, want)) (ht : b = true → DRV P ro kp ops o env σ K) (hf : b = false → DRV P ro kp ops o env σ K) : DRV P ro kp ops o env σ K := by
  cases b
  · exact hf rfl
  · exact ht rfl
theorem drv_lit {b want : Bool} (_ : guardA ops o env = some (.bool b, want)) (_ : b = want) (h : DRV P ro kp ops o env σ K) : DRV P ro kp ops o env σ K := h
theorem drs_eff {R : AV → List Ent → Prop} {d : Nat} (hgd : o.guard = none) (hd : o.dst = some d) (hg : GOp P ro o env σ R) (h : ∀ v σ', R v σ' → AddsK kp σ σ' ∧ K ((d, v) :: env) σ') : DRS P ro kp o env σ K :=
  ⟨hgd, R, hg, fun v σ' hr => ⟨(h v σ' hr).1, by rw [put_some hd]; exact (h v σ' hr).2⟩⟩
theorem drs_do {v : AV} {σ' : List Ent} (hgd : o.guard = none) (hd : o.dst = none) (hg : GOp P ro o env σ (Is v σ')) (ha : AddsK kp σ σ') (h : K env σ') : DRS P ro kp o env σ K :=
  ⟨hgd, _, hg, fun u τ hr => by cases hr; exact ⟨ha, by rw [hd]; exact h⟩⟩
theorem drs_is {v : AV} {d : Nat} (hgd : o.guard = none) (hd : o.dst = some d) (hg : GOp P ro o env σ (Is v σ)) (h : K ((d, v) :: env) σ) : DRS P ro kp o env σ K :=
  drs_eff hgd hd hg (by rintro _ _ ⟨⟩; exact ⟨AddsK.refl _, h⟩)
theorem drs_box {l : List AV} {t : TypeId} {d : Nat} (hgd : o.guard = none) (hd : o.dst = some d) (hg : GOp P ro o env σ (Boxed l t σ)) (h : ∀ b, K ((d, .ptr b 0) :: env) (.cells b l t :: σ)) : DRS P ro kp o env σ K :=
  drs_eff hgd hd hg (by rintro _ _ ⟨b⟩; exact ⟨AddsK.cons _ _, h b⟩)
theorem drs_row {l : List (List AV)} {t : TypeId} {sz d : Nat} (hgd : o.guard = none) (hd : o.dst = some d) (hg : GOp P ro o env σ (Rowed t sz l σ)) (h : ∀ v, K ((d, .slv v) :: env) (.row v t sz l :: σ)) : DRS P ro kp o env σ K :=
  drs_eff hgd hd hg (by rintro _ _ ⟨b⟩; exact ⟨AddsK.cons _ _, h b⟩)
end
end Go.Proofs.Ytobcnochlkdpaaa
