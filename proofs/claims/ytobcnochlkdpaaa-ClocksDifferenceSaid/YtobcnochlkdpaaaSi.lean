/- A logic of abstract values, ninth part: the steps of a walk. -/
import Derived.Test.YtobcnochlkdpaaaSh
namespace Go.Proofs.Ytobcnochlkdpaaa
set_option linter.unusedSimpArgs false
set_option linter.unusedVariables false

theorem get_map {α : Type} {f : α → List AV} {l : List α} {k : Nat} {c : α} (h : l[k]? = some c) : (l.map f)[k]? = some (f c) := by rw [List.getElem?_map, h]; rfl
def entersB (P : Program) (g : FuncId) : Bool := match P.funcs[g]? with
  | some fn => fn.name != "runtime.NumGoroutine" && fn.body.isSome
  | none => false
theorem enters_b {P : Program} {g : FuncId} (h : entersB P g = true) : Enters P g := by
  unfold entersB at h
  split at h
  · rename_i fn hf
    simp only [Bool.and_eq_true] at h
    cases hb : fn.body with
    | none => rw [hb] at h; simp at h
    | some c => exact enters_of hf (by simpa [bne] using h.1) hb
  · cases h

section
variable {P : Program} {ro : Option Nat} {Q : Exit → St → Prop} {s : St} {ops : Array Oper} {rest l : List Oper} {o : Oper} {env : Env} {σ : List Ent} {mk : List Nat} {n : Nat}

theorem exl_nilT {y : Code} (h : EX P ro y Q s) : EXL P ro ops [] (thenA (EX P ro y Q) Q) s := exl_nil h
theorem dst_ok {d : Nat} (hd : o.dst = some d) (hn : Nat.blt d n = true) : dstOk o.dst n = true := by rw [hd]; simpa [dstOk] using hn
theorem exl_is {v : AV} {d : Nat} {σ1 : List Ent} (hgd : o.guard = none) (hd : o.dst = some d) (hn : Nat.blt d n = true) (hg : GOp P ro o env σ (Is v σ1)) (h : EXL P ro ops rest Q ⟨(d, v) :: env, σ1, mk, n⟩) : EXL P ro ops (o :: rest) Q ⟨env, σ, mk, n⟩ :=
  exl_plain (s := ⟨env, σ, mk, n⟩) hgd (dst_ok hd hn) hg (by rintro _ _ ⟨⟩; rw [hd]; exact h)
/-- A bool that has got a name. -/
inductive BV : Bool → Bool → Prop
  | mk (b : Bool) : BV b b
theorem BV.eq {a b : Bool} (h : BV a b) : a = b := by cases h; rfl
theorem exl_isB {e : Bool} {d : Nat} {σ1 : List Ent} (hgd : o.guard = none) (hd : o.dst = some d) (hn : Nat.blt d n = true) (hg : GOp P ro o env σ (Is (.bool e) σ1)) (h : ∀ b, BV e b → EXL P ro ops rest Q ⟨(d, .bool b) :: env, σ1, mk, n⟩) : EXL P ro ops (o :: rest) Q ⟨env, σ, mk, n⟩ :=
  exl_is hgd hd hn hg (h e (.mk e))
/-- An operation without a value: a store. -/
theorem exl_do {v : AV} {σ' : List Ent} (hgd : o.guard = none) (hd : o.dst = none) (hg : GOp P ro o env σ (Is v σ')) (h : EXL P ro ops rest Q ⟨env, σ', mk, n⟩) : EXL P ro ops (o :: rest) Q ⟨env, σ, mk, n⟩ :=
  exl_plain (s := ⟨env, σ, mk, n⟩) hgd (by rw [hd]; rfl) hg (by rintro _ _ ⟨⟩; rw [hd]; exact h)
theorem exl_isW {v : AV} {b want : Bool} {d : Nat} {σ1 : List Ent} (hgd : guardA ops o env = some (.bool b, want)) (hb : b = want) (hd : o.dst = some d) (hn : Nat.blt d n = true) (hg : GOp P ro o env σ (Is v σ1)) (h : EXL P ro ops rest Q ⟨(d, v) :: env, σ1, mk, n⟩) : EXL P ro ops (o :: rest) Q ⟨env, σ, mk, n⟩ :=
  exl_want (s := ⟨env, σ, mk, n⟩) hgd hb (dst_ok hd hn) hg (by rintro _ _ ⟨⟩; rw [hd]; exact h)
theorem exl_isBW {e b want : Bool} {d : Nat} {σ1 : List Ent} (hgd : guardA ops o env = some (.bool b, want)) (hb : b = want) (hd : o.dst = some d) (hn : Nat.blt d n = true) (hg : GOp P ro o env σ (Is (.bool e) σ1)) (h : ∀ b, BV e b → EXL P ro ops rest Q ⟨(d, .bool b) :: env, σ1, mk, n⟩) : EXL P ro ops (o :: rest) Q ⟨env, σ, mk, n⟩ :=
  exl_isW hgd hb hd hn hg (h e (.mk e))
theorem exl_skipL {b want : Bool} {d : Nat} (hgd : guardA ops o env = some (.bool b, want)) (hb : b = !want) (hd : o.dst = some d) (hn : Nat.blt d n = true) (h : EXL P ro ops rest Q ⟨(d, .raw undef) :: env, σ, mk, n⟩) : EXL P ro ops (o :: rest) Q ⟨env, σ, mk, n⟩ :=
  exl_skip (s := ⟨env, σ, mk, n⟩) hgd hb (dst_ok hd hn) (by rw [hd]; exact h)
theorem exl_skipR {want : Bool} {d : Nat} (hgd : guardA ops o env = some (.raw undef, want)) (hd : o.dst = some d) (hn : Nat.blt d n = true) (h : EXL P ro ops rest Q ⟨(d, .raw undef) :: env, σ, mk, n⟩) : EXL P ro ops (o :: rest) Q ⟨env, σ, mk, n⟩ :=
  exl_skip_raw (s := ⟨env, σ, mk, n⟩) hgd (dst_ok hd hn) (by rw [hd]; exact h)
theorem exl_caseL {b want : Bool} (hgd : guardA ops o env = some (.bool b, want)) (ht : b = true → EXL P ro ops (o :: rest) Q ⟨env, σ, mk, n⟩) (hf : b = false → EXL P ro ops (o :: rest) Q ⟨env, σ, mk, n⟩) : EXL P ro ops (o :: rest) Q ⟨env, σ, mk, n⟩ :=
  exl_case (s := ⟨env, σ, mk, n⟩) hgd ht hf
/-- The guard is known already. -/
theorem exl_lit {b want : Bool} (_ : guardA ops o env = some (.bool b, want)) (_ : b = want) (h : EXL P ro ops (o :: rest) Q ⟨env, σ, mk, n⟩) : EXL P ro ops (o :: rest) Q ⟨env, σ, mk, n⟩ := h
theorem exl_box {L : List AV} {t : TypeId} {d : Nat} (hgd : o.guard = none) (hd : o.dst = some d) (hn : Nat.blt d n = true) (hg : GOp P ro o env σ (Boxed L t σ)) (h : ∀ b, EXL P ro ops rest Q ⟨(d, .ptr b 0) :: env, .cells b L t :: σ, mk, n⟩) : EXL P ro ops (o :: rest) Q ⟨env, σ, mk, n⟩ :=
  exl_plain (s := ⟨env, σ, mk, n⟩) hgd (dst_ok hd hn) hg (by rintro _ _ ⟨b⟩; rw [hd]; exact h b)
theorem exl_row {L : List (List AV)} {t : TypeId} {sz d : Nat} (hgd : o.guard = none) (hd : o.dst = some d) (hn : Nat.blt d n = true) (hg : GOp P ro o env σ (Rowed t sz L σ)) (h : ∀ v, EXL P ro ops rest Q ⟨(d, .slv v) :: env, .row v t sz L :: σ, mk, n⟩) : EXL P ro ops (o :: rest) Q ⟨env, σ, mk, n⟩ :=
  exl_plain (s := ⟨env, σ, mk, n⟩) hgd (dst_ok hd hn) hg (by rintro _ _ ⟨b⟩; rw [hd]; exact h b)
theorem exl_grew {F : Value → List Ent} {d : Nat} (hgd : o.guard = none) (hd : o.dst = some d) (hn : Nat.blt d n = true) (hg : GOp P ro o env σ (Grew F)) (h : ∀ v, EXL P ro ops rest Q ⟨(d, .slv v) :: env, F v, mk, n⟩) : EXL P ro ops (o :: rest) Q ⟨env, σ, mk, n⟩ :=
  exl_plain (s := ⟨env, σ, mk, n⟩) hgd (dst_ok hd hn) hg (by rintro _ _ ⟨v⟩; rw [hd]; exact h v)
/-- A call, whatever it hands back. -/
theorem exl_call {R : AV → List Ent → Prop} {d : Nat} (hgd : o.guard = none) (hd : o.dst = some d) (hn : Nat.blt d n = true) (hg : GOp P ro o env σ R) (h : ∀ v σ', R v σ' → EXL P ro ops rest Q ⟨(d, v) :: env, σ', mk, n⟩) : EXL P ro ops (o :: rest) Q ⟨env, σ, mk, n⟩ :=
  exl_plain (s := ⟨env, σ, mk, n⟩) hgd (dst_ok hd hn) hg (by intro v σ' hr; rw [hd]; exact h v σ' hr)

/-! In a region that draws its order. -/
structure WL (P : Program) (ro : Option Nat) (kp : Ent → Prop) (ef : List Nat) (ops : Array Oper) (F : Env → List Ent → Prop) (k : Nat) (l : List Oper) (env : Env) (σ : List Ent) : Prop where
  run : WQ P ro (AddsK kp) ef ops (fun e σ => ∃ env, lk env = e ∧ F env σ) k l (lk env) σ
theorem gopF_iff {R : AV → List Ent → Prop} (h : GOp P ro o env σ R) : GOpF P ro o (lk env) σ R :=
  fun X M a w hg ho K Qx hK => h.run X M a w hg (fun x hx v hv => ho x hx v (by rw [evF_lk]; exact hv)) K Qx hK
theorem gF_guardA {b want : Bool} (h : guardA ops o env = some (.bool b, want)) : gF ops o (lk env) = some (b == want) := by
  obtain ⟨j, d, h1, h2, h3⟩ := guardA_spec (b := b) h
  unfold gF; rw [h1]; simp only [h2, Option.bind_some, h3]
theorem gF_raw {want : Bool} (h : guardA ops o env = some (.raw undef, want)) : gF ops o (lk env) = some false := by
  obtain ⟨j, d, h1, h2, h3⟩ := guardA_spec (b := want) h
  unfold gF; rw [h1]; simp only [h2, Option.bind_some, h3]; rfl
theorem gF_none (h : o.guard = none) : gF ops o (lk env) = some true := by unfold gF; rw [h]

variable {kp : Ent → Prop} {ef : List Nat} {F : Env → List Ent → Prop} {k : Nat}
theorem wl_nil (h : F env σ) : WL P ro kp ef ops F k [] env σ := ⟨env, rfl, h⟩
theorem put_some {d : Nat} (hd : o.dst = some d) (v : AV) : put o.dst v env = (d, v) :: env := by rw [hd]; rfl
theorem wl_core {v : AV} {d : Nat} (hk : ef.contains k = false) (hd : o.dst = some d) (hy : Yld P ro (AddsK kp) ops o v (lk env) σ) (h : WL P ro kp ef ops F (k + 1) rest ((d, v) :: env) σ) : WL P ro kp ef ops F k (o :: rest) env σ :=
  ⟨.inr ⟨hk, v, hy, by rw [putF_lk, put_some hd]; exact h.run⟩⟩
theorem wl_is {v : AV} {d : Nat} (hgd : o.guard = none) (hk : ef.contains k = false) (hd : o.dst = some d) (hg : ∀ σ', AddsK kp σ σ' → GOp P ro o env σ' (Is v σ')) (h : WL P ro kp ef ops F (k + 1) rest ((d, v) :: env) σ) : WL P ro kp ef ops F k (o :: rest) env σ :=
  wl_core hk hd (.inl ⟨gF_none hgd, fun σ' hl => gopF_iff (hg σ' hl)⟩) h
theorem wl_isW {v : AV} {b want : Bool} {d : Nat} (hgd : guardA ops o env = some (.bool b, want)) (hb : b = want) (hk : ef.contains k = false) (hd : o.dst = some d) (hg : ∀ σ', AddsK kp σ σ' → GOp P ro o env σ' (Is v σ')) (h : WL P ro kp ef ops F (k + 1) rest ((d, v) :: env) σ) : WL P ro kp ef ops F k (o :: rest) env σ :=
  wl_core hk hd (.inl ⟨by rw [gF_guardA hgd, hb]; simp, fun σ' hl => gopF_iff (hg σ' hl)⟩) h
theorem wl_isB {e : Bool} {d : Nat} (hgd : o.guard = none) (hk : ef.contains k = false) (hd : o.dst = some d) (hg : ∀ σ', AddsK kp σ σ' → GOp P ro o env σ' (Is (.bool e) σ')) (h : ∀ b, BV e b → WL P ro kp ef ops F (k + 1) rest ((d, .bool b) :: env) σ) : WL P ro kp ef ops F k (o :: rest) env σ :=
  wl_is hgd hk hd hg (h e (.mk e))
theorem wl_isBW {e b want : Bool} {d : Nat} (hgd : guardA ops o env = some (.bool b, want)) (hb : b = want) (hk : ef.contains k = false) (hd : o.dst = some d) (hg : ∀ σ', AddsK kp σ σ' → GOp P ro o env σ' (Is (.bool e) σ')) (h : ∀ b, BV e b → WL P ro kp ef ops F (k + 1) rest ((d, .bool b) :: env) σ) : WL P ro kp ef ops F k (o :: rest) env σ :=
  wl_isW hgd hb hk hd hg (h e (.mk e))
theorem wl_skip {b want : Bool} {d : Nat} (hgd : guardA ops o env = some (.bool b, want)) (hb : b = !want) (hk : ef.contains k = false) (hd : o.dst = some d) (h : WL P ro kp ef ops F (k + 1) rest ((d, .raw undef) :: env) σ) : WL P ro kp ef ops F k (o :: rest) env σ :=
  wl_core hk hd (.inr ⟨by rw [gF_guardA hgd, hb]; cases want <;> rfl, rfl⟩) h
theorem wl_skip_raw {want : Bool} {d : Nat} (hgd : guardA ops o env = some (.raw undef, want)) (hk : ef.contains k = false) (hd : o.dst = some d) (h : WL P ro kp ef ops F (k + 1) rest ((d, .raw undef) :: env) σ) : WL P ro kp ef ops F k (o :: rest) env σ :=
  wl_core hk hd (.inr ⟨gF_raw hgd, rfl⟩) h
theorem wl_case {b want : Bool} (_ : guardA ops o env = some (.bool b, want)) (ht : b = true → WL P ro kp ef ops F k (o :: rest) env σ) (hf : b = false → WL P ro kp ef ops F k (o :: rest) env σ) : WL P ro kp ef ops F k (o :: rest) env σ := by
  cases b
  · exact hf rfl
  · exact ht rfl
theorem wl_lit {b want : Bool} (_ : guardA ops o env = some (.bool b, want)) (_ : b = want) (h : WL P ro kp ef ops F k (o :: rest) env σ) : WL P ro kp ef ops F k (o :: rest) env σ := h
theorem wl_eff {R : AV → List Ent → Prop} {d : Nat} (hgd : o.guard = none) (hk : ef.contains k = true) (hd : o.dst = some d) (hg : GOp P ro o env σ R) (h : ∀ v σ', R v σ' → AddsK kp σ σ' ∧ WL P ro kp ef ops F (k + 1) rest ((d, v) :: env) σ') : WL P ro kp ef ops F k (o :: rest) env σ :=
  ⟨.inl ⟨hk, gF_none hgd, R, gopF_iff hg, fun v σ' hr => ⟨(h v σ' hr).1, by rw [putF_lk, put_some hd]; exact (h v σ' hr).2.run⟩⟩⟩
theorem wl_isE {v : AV} {d : Nat} (hgd : o.guard = none) (hk : ef.contains k = true) (hd : o.dst = some d) (hg : GOp P ro o env σ (Is v σ)) (h : WL P ro kp ef ops F (k + 1) rest ((d, v) :: env) σ) : WL P ro kp ef ops F k (o :: rest) env σ :=
  wl_eff hgd hk hd hg (by rintro _ _ ⟨⟩; exact ⟨AddsK.refl _, h⟩)
theorem wl_box {L : List AV} {t : TypeId} {d : Nat} (hgd : o.guard = none) (hk : ef.contains k = true) (hd : o.dst = some d) (hg : GOp P ro o env σ (Boxed L t σ)) (h : ∀ b, WL P ro kp ef ops F (k + 1) rest ((d, .ptr b 0) :: env) (.cells b L t :: σ)) : WL P ro kp ef ops F k (o :: rest) env σ :=
  wl_eff hgd hk hd hg (by rintro _ _ ⟨b⟩; exact ⟨AddsK.cons _ _, h b⟩)
theorem wl_row {L : List (List AV)} {t : TypeId} {sz d : Nat} (hgd : o.guard = none) (hk : ef.contains k = true) (hd : o.dst = some d) (hg : GOp P ro o env σ (Rowed t sz L σ)) (h : ∀ v, WL P ro kp ef ops F (k + 1) rest ((d, .slv v) :: env) (.row v t sz L :: σ)) : WL P ro kp ef ops F k (o :: rest) env σ :=
  wl_eff hgd hk hd hg (by rintro _ _ ⟨b⟩; exact ⟨AddsK.cons _ _, h b⟩)

theorem ex_drawLK (kp : Ent → Prop) {id : Nat} (m : Nat) (ef : List Nat) (hm : P.follows .mixedOrders = true) (hB : headTailB ef l m = true) (hd : (l.all fun o => dstOk o.dst n) = true)
    (h : WL P ro kp ef (l.take m).toArray (fun env σ => EXL P ro l.toArray (l.drop m) Q ⟨env, σ, mk, n⟩) 0 (l.take m) env σ) : EX P ro (.region id l.toArray true) Q ⟨env, σ, mk, n⟩ :=
  ex_drawK kp (s := ⟨env, σ, mk, n⟩) m ef hm hB hd h.run
/-- Its last operation is a store. -/
def lastStore (l : List Oper) : Bool := match l.getLast? with
  | some o => match o.op with | .store .. => true | _ => false
  | none => false
theorem ex_drawT {id : Nat} (_ : lastStore l = true) (hm : P.follows .mixedOrders = true) (hB : headTailB [] l (l.length - 1) = true) (hd : (l.all fun o => dstOk o.dst n) = true)
    (h : WL P ro anyK [] (l.take (l.length - 1)).toArray (fun env σ => EXL P ro l.toArray (l.drop (l.length - 1)) Q ⟨env, σ, mk, n⟩) 0 (l.take (l.length - 1)) env σ) : EX P ro (.region id l.toArray true) Q ⟨env, σ, mk, n⟩ :=
  ex_drawLK anyK _ [] hm hB hd h
/-- All of its operations yield values. -/
def pureOps (l : List Oper) : Bool := l.all fun o => match o.op with
  | .store .. | .buildSlice .. | .box .. | .alloc .. | .makeSlice .. | .makeMap .. | .mapUpdate .. | .entryStore .. | .slice .. => false
  | .call c => match c.callee with
    | .builtin b => match b with | .append | .copy | .delete | .clear => false | _ => true
    | _ => false
  | _ => true
/-- All of its operations yield values; functions are called too. -/
def pureCalls (l : List Oper) : Bool := l.all fun o => match o.op with
  | .store .. | .buildSlice .. | .box .. | .alloc .. | .makeSlice .. | .makeMap .. | .mapUpdate .. | .entryStore .. => false
  | .call c => match c.callee with
    | .builtin b => match b with | .append | .copy | .delete | .clear => false | _ => true
    | _ => true
  | _ => true
theorem ex_drawC {id : Nat} (_ : pureCalls l = true) (hm : P.follows .mixedOrders = true) (hB : headTailB [] l l.length = true) (hd : (l.all fun o => dstOk o.dst n) = true)
    (h : EX P ro (.region id l.toArray true) Q ⟨env, σ, mk, n⟩) : EX P ro (.region id l.toArray true) Q ⟨env, σ, mk, n⟩ := h
theorem ex_drawP {id : Nat} (_ : pureOps l = true) (hm : P.follows .mixedOrders = true) (hB : headTailB [] l l.length = true) (hd : (l.all fun o => dstOk o.dst n) = true)
    (h : EX P ro (.region id l.toArray true) Q ⟨env, σ, mk, n⟩) : EX P ro (.region id l.toArray true) Q ⟨env, σ, mk, n⟩ := h
theorem ex_drawQ {id : Nat} (hm : P.follows .mixedOrders = true) (hB : headTailB [] l l.length = true) (hd : (l.all fun o => dstOk o.dst n) = true)
    (h : WL P ro anyK [] l.toArray (fun env σ => Q .normal ⟨env, σ, mk, n⟩) 0 l env σ) : EX P ro (.region id l.toArray true) Q ⟨env, σ, mk, n⟩ := by
  refine ex_drawLK anyK l.length [] hm hB hd ?_
  rw [List.take_length, List.drop_length]
  have mono : ∀ (F F' : Env → List Ent → Prop), (∀ env σ, F env σ → F' env σ) → ∀ (m : List Oper) (k : Nat) (e : EnvF) (σ : List Ent), WQ P ro (AddsK anyK) [] l.toArray (fun e σ => ∃ env, lk env = e ∧ F env σ) k m e σ → WQ P ro (AddsK anyK) [] l.toArray (fun e σ => ∃ env, lk env = e ∧ F' env σ) k m e σ := by
    intro F F' hF m
    induction m with
    | nil => rintro k e σ ⟨env, h1, h2⟩; exact ⟨env, h1, hF _ _ h2⟩
    | cons o m ih =>
      rintro k e σ (⟨h1, h2, R, h3, h4⟩ | ⟨h1, v, h2, h3⟩)
      · exact .inl ⟨h1, h2, R, h3, fun v σ' hr => ⟨(h4 v σ' hr).1, ih _ _ _ (h4 v σ' hr).2⟩⟩
      · exact .inr ⟨h1, v, h2, ih _ _ _ h3⟩
  exact ⟨mono _ _ (fun env σ h => exl_nil h) _ _ _ _ h.run⟩

/-- One value is handed back, and what was owned ahead is as it was. -/
theorem ret_is {fn : Func} {vs : List AV} {v : AV} {σ1 σ2 : List Ent} (hm : Marks mk σ1 σ2) (hr : Res P env σ2 fn.results.toList vs) (hs : σ.Sublist σ2) (e : oneA vs = v) : RetOK P fn (Is v σ) ⟨env, σ1, mk, n⟩ :=
  ⟨vs, σ2, hm, hr, fin_drop hs (fin_done (by rw [e]; exact .mk))⟩
theorem bool_eq {a b : Bool} (h : a = b) : oneA [.bool a] = .bool b := by rw [h]; rfl
theorem int_eq {k : IntKind} {a b : Int} (h : a = b) : oneA [.int k a] = .int k b := by rw [h]; rfl
end
end Go.Proofs.Ytobcnochlkdpaaa
