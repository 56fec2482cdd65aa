/- A logic of abstract values: parts of an owned row; an element taken out of it. -/
import Derived.Test.YtobcnochlkdpaaaSp
import Derived.Deep.DeepAppendRoom
namespace Go.Proofs.Ytobcnochlkdpaaa
set_option linter.unusedSimpArgs false
set_option linter.unusedVariables false

section
variable {P : Program} {ro : Option Nat} {env : Env} {σ σ' : List Ent} {o : Oper} {dst : Option Tmp} {ty : TypeId} {pos : String} {after : Array Edge} {guard : Option (Nat × Bool)}

/-- A part of an owned slice, by its own value. -/
def subS (sz : Nat) (v : Value) (l h : Nat) : Value := match v with
  | .slice a _ cap => .slice (if cap = l then a else a.map (·.add (l * sz))) (h - l) (cap - l)
  | _ => v

theorem g_sliceRow {t e e' : TypeId} {sz : Nat} {x : Operand} {lo hi : Option Operand} {v : Value} {L : List (List AV)} {l h : Nat} {li hj : Int} (ht : elemOf P t = some (e, sz)) (hx : evA env x = some (.slv v)) (hm : Ent.row v e' sz L ∈ σ) (hlo : boundA env 0 lo = some li) (hhi : boundA env L.length hi = some hj)
    (hl : li = (l : Int)) (hh : hj = (h : Int)) (hlh : l ≤ h) (hhL : h ≤ L.length) :
    GOp P ro ⟨dst, .slice t x lo hi none, ty, pos, after, guard⟩ env σ (Is (.raw (subS sz v l h)) σ) :=
  gop_pure _ (by intro c h; cases h) fun X M a w hg ho => by
    have h1 := ho x (by simp [Op.operands]) _ hx
    simp only [VRel] at h1
    obtain ⟨h1, _⟩ := h1
    obtain ⟨hue, inf, hinf, hsz⟩ := elemOf_spec ht
    obtain ⟨xs, hown, _, _⟩ := hg.ent _ hm
    subst hl hh
    obtain ⟨ad, cap, rfl, hcap⟩ : ∃ ad cap, v = .slice ad L.length cap ∧ L.length ≤ cap := by
      rcases hown.2 with ⟨rfl, h0⟩ | ⟨g, cap, cur, rfl, _, _, hnc, _⟩
      · exact ⟨none, 0, by rw [h0], by omega⟩
      · exact ⟨_, cap, rfl, hnc⟩
    have elo : ∀ (y : Operand), lo = some y → ∃ k, a.eval y = .int k (l : Int) := fun y hy => by
      subst hy
      simp only [boundA] at hlo
      split at hlo
      · rename_i k n he
        cases hlo
        have := ho y (by simp [Op.operands]) _ he
        simp only [VRel] at this
        exact ⟨_, this⟩
      · cases hlo
    have ehi : ∀ (y : Operand), hi = some y → ∃ k, a.eval y = .int k (h : Int) := fun y hy => by
      subst hy
      simp only [boundA] at hhi
      split at hhi
      · rename_i k n he
        cases hhi
        have := ho y (by simp [Op.operands]) _ he
        simp only [VRel] at this
        exact ⟨_, this⟩
      · cases hhi
    have ehn : hi = none → h = L.length := fun e => by subst e; simp only [boundA, Option.some.injEq] at hhi; omega
    have eln : lo = none → l = 0 := fun e => by subst e; simp only [boundA, Option.some.injEq] at hlo; omega
    refine ⟨subS sz (.slice ad L.length cap) l h, by simp [VRel], ?_⟩
    have hlc : h ≤ cap := by omega
    cases lo with
    | none =>
      have e0 := eln rfl
      subst e0
      cases hi with
      | none =>
        have e1 := ehn rfl
        subst e1
        simp [subS, execOp, h1, Instr.sliceAt, Instr.slice, run_underlying hue, Instr.sliceBounds, Sem.run_bind, sizeOf, typeInfo, hinf, hsz]
      | some y =>
        obtain ⟨k, hy⟩ := ehi y rfl
        simp [subS, execOp, h1, hy, Instr.sliceAt, Instr.slice, run_underlying hue, Instr.sliceBounds, Sem.run_bind, sizeOf, typeInfo, hinf, hsz, Instr.sliceBound, asIntOf, hlc]
    | some z =>
      obtain ⟨kz, hz⟩ := elo z rfl
      cases hi with
      | none =>
        have e1 := ehn rfl
        subst e1
        simp [subS, execOp, h1, hz, Instr.sliceAt, Instr.slice, run_underlying hue, Instr.sliceBounds, Sem.run_bind, sizeOf, typeInfo, hinf, hsz, Instr.sliceBound, asIntOf, hlh]
      | some y =>
        obtain ⟨k, hy⟩ := ehi y rfl
        simp [subS, execOp, h1, hz, hy, Instr.sliceAt, Instr.slice, run_underlying hue, Instr.sliceBounds, Sem.run_bind, sizeOf, typeInfo, hinf, hsz, Instr.sliceBound, asIntOf, hlc, hlh]

theorem flatten_take_sz {sz : Nat} : ∀ {L : List (List AV)} (k : Nat), (∀ x ∈ L, x.length = sz) → (L.take k).flatten = L.flatten.take (k * sz)
  | [], k, _ => by simp
  | x :: L, 0, _ => by simp
  | x :: L, k + 1, h => by
    have hx := h x (by simp)
    rw [List.take_succ_cons, List.flatten_cons, List.flatten_cons, flatten_take_sz k (fun y hy => h y (by simp [hy])), List.take_append, hx]
    congr 1
    · rw [List.take_of_length_le]; rw [hx, Nat.add_mul]; omega
    · congr 1; rw [Nat.add_mul]; omega
theorem flatten_drop_sz {sz : Nat} : ∀ {L : List (List AV)} (k : Nat), (∀ x ∈ L, x.length = sz) → (L.drop k).flatten = L.flatten.drop (k * sz)
  | [], k, _ => by simp
  | x :: L, 0, _ => by simp
  | x :: L, k + 1, h => by
    have hx := h x (by simp)
    have e : (k + 1) * sz = x.length + k * sz := by rw [hx, Nat.add_mul]; omega
    rw [List.drop_succ_cons, List.flatten_cons, flatten_drop_sz k (fun y hy => h y (by simp [hy])), e, List.drop_length_add_append]

theorem g_appendCut {t e : TypeId} {sz bytes : Nat} {s x : Operand} {v : Value} {L : List (List AV)} {k k1 n : Nat} {F : Value → List Ent} (ht : appOf P t = some (e, sz, bytes)) (hs : evA env s = some (.raw (subS sz v 0 k))) (hx : evA env x = some (.raw (subS sz v k1 n)))
    (hu : ∀ v', Upd σ (.row v e sz L) (.row v' e sz (L.eraseIdx k)) (F v')) (hn : n = L.length) (hk1 : k1 = k + 1) (hk : k < L.length) (hone : ∀ y ∈ L, y.all AV.one = true) :
    GOp P ro ⟨dst, .call { callee := .builtin .append, args := #[s, x], argTypes := #[t, t] }, ty, pos, after, guard⟩ env σ (Grew F) :=
  gop_run (by intro c h; cases h) fun X M a w hg ho => by
    have h1 := ho s (by simp [Op.operands, Call.operands]) _ hs
    have h2 := ho x (by simp [Op.operands, Call.operands]) _ hx
    simp only [VRel] at h1 h2
    obtain ⟨hue, i, z, hi, hz, hsz, hby, hzl, h0, hb0⟩ := appOf_spec ht
    obtain ⟨xs, hown, hr, hsl⟩ := hg.ent _ (hu v).mem
    subst hn hk1
    have hone' : L.flatten.all AV.one = true := by
      rw [List.all_eq_true]
      intro y hy
      obtain ⟨q, hq, hy⟩ := List.mem_flatten.1 hy
      exact List.all_eq_true.1 (hone q hq) y hy
    have h1' := one_of_rels hr hone'
    rcases hown.2 with ⟨rfl, hn0⟩ | ⟨g, cap, cur, rfl, hbg, hgg, hnc, hcm, hcs, htk⟩
    · omega
    · have hlo := hown.1
      have hcell : ∀ (j : Nat) (u : Value), xs[j]? = some u → w.cell? ((⟨g, 0, none⟩ : Addr).add j) = some u := hown.cells (g := g) rfl
      have hkm : k * sz + (L.length - (k + 1)) * sz ≤ L.length * sz := by rw [← Nat.add_mul]; exact Nat.mul_le_mul_right _ (by omega)
      have hsplit : (k + 1) * sz + (L.length - (k + 1)) * sz = L.length * sz := by rw [← Nat.add_mul]; congr 1; omega
      obtain ⟨news, hnews⟩ : ∃ news, news = xs.drop ((k + 1) * sz) := ⟨_, rfl⟩
      have hnl : news.length = (L.length - (k + 1)) * sz := by rw [hnews, List.length_drop, hlo]; omega
      have hone2 : ∀ u ∈ news, u.oneCell' = true := fun u hu => h1' u (by rw [hnews] at hu; exact List.mem_of_mem_drop hu)
      obtain ⟨ad, had, hadc⟩ : ∃ ad : Addr, subS sz (.slice (some ⟨g, 0, none⟩) L.length cap) (k + 1) L.length = .slice (some ad) (L.length - (k + 1)) (cap - (k + 1)) ∧ ∀ (j : Nat) (u : Value), news[j]? = some u → w.cell? (ad.add j) = some u := by
        by_cases hc : cap = k + 1
        · refine ⟨⟨g, 0, none⟩, by simp [subS, hc], fun j u hj => ?_⟩
          have : news.length = 0 := by rw [hnl, show L.length - (k + 1) = 0 by omega, Nat.zero_mul]
          rw [List.getElem?_eq_none (by omega)] at hj; cases hj
        · refine ⟨(⟨g, 0, none⟩ : Addr).add ((k + 1) * sz), by simp [subS, hc], fun j u hj => ?_⟩
          rw [hnews, List.getElem?_drop] at hj
          have := hcell _ _ hj
          rw [Addr.add_lit] at this ⊢
          rw [Addr.add_lit]
          simpa [Nat.add_assoc] using this
      have hs0 : subS sz (.slice (some ⟨g, 0, none⟩) L.length cap) 0 k = .slice (some ⟨g, 0, none⟩) k cap := by
        simp [subS, Addr.add]
      have hown0 : w.ownsRow 0 e sz (.slice (some ⟨g, 0, none⟩) k cap) k (xs.take (k * sz)) := by
        refine ⟨?_, .inr ⟨g, cap, cur, rfl, hbg, hgg, by omega, hcm, hcs, ?_⟩⟩
        · rw [List.length_take, hlo]
          have : k * sz ≤ L.length * sz := Nat.mul_le_mul_right _ (by omega)
          omega
        · rw [← htk, List.take_take]
          congr 1
          have : k * sz ≤ L.length * sz := Nat.mul_le_mul_right _ (by omega)
          omega
      have hroom : k + (L.length - (k + 1)) ≤ cap := by omega
      obtain ⟨w', hrun, hown', hgr⟩ := run_append_own_spare (P := P) w 0 t ty e i sz hue hi hsz g k cap _ hown0 ad (L.length - (k + 1)) (cap - (k + 1)) news hnl hadc hone2 hroom
      have hel : (L.eraseIdx k).length = k + (L.length - (k + 1)) := by rw [List.length_eraseIdx, if_pos hk]; omega
      have hef : L.eraseIdx k = L.take k ++ L.drop (k + 1) := List.eraseIdx_eq_take_drop_succ L k
      have hent : (Ent.row (.slice (some ⟨g, 0, none⟩) (k + (L.length - (k + 1))) cap) e sz (L.eraseIdx k)).at M w' := by
        refine ⟨xs.take (k * sz) ++ news, by rw [hel]; exact hown', ?_, fun y hy => hsl y (List.mem_of_mem_eraseIdx hy)⟩
        rw [hef, List.flatten_append, flatten_take_sz k hsl, flatten_drop_sz (k + 1) hsl, hnews]
        exact (hr.take _).append (hr.drop _)
      refine ⟨M, _, w', .slv _, F _, Mem.le_refl M, hg.upd (hu _) hgr.os hgr.tape hgr.output (fun k hk hne => hgr.block k hk (fun e => hne e.symm)) hent (.inl rfl), ⟨rfl, rfl⟩, .mk _, .inl ?_⟩
      rw [hs0] at h1
      rw [had] at h2
      simp [execOp, resolve, invoke, builtin, Sem.run_bind, h1, h2, hrun]

/-! ### Division, bits, shifts -/
theorem g_rem {x y : Operand} {t yt : TypeId} {k : IntKind} {a b c : Int} (hx : evA env x = some (.int k a)) (hy : evA env y = some (.int k b)) (hb : b ≠ 0) (hc : a.tmod b = c) :
    GOp P ro ⟨dst, .binOp .rem t x y yt, ty, pos, after, guard⟩ env σ (Is (.int k c) σ) :=
  gop_pure _ (by intro c h; cases h) fun X M e w hg ho => by
    have h1 := ho x (by simp [Op.operands]) _ hx
    have h2 := ho y (by simp [Op.operands]) _ hy
    simp only [VRel] at h1 h2
    exact ⟨.int k c, by simp [VRel], by simp [execOp, h1, h2, eqGuard, binOp, Op.intDiv, Sem.run_bind, hb, hc]⟩
theorem g_remN {x y : Operand} {t yt : TypeId} {k : IntKind} {a b : Int} {m n : Nat} (hx : evA env x = some (.int k a)) (hy : evA env y = some (.int k b)) (ha : a = (m : Int)) (hb : b = (n : Int)) (h0 : n ≠ 0) :
    GOp P ro ⟨dst, .binOp .rem t x y yt, ty, pos, after, guard⟩ env σ (Is (.int k ((m % n : Nat) : Int)) σ) :=
  g_rem hx hy (by omega) (by subst ha hb; rfl)
theorem g_quo {x y : Operand} {t yt : TypeId} {a b c : Int} (hx : evA env x = some (.int .i64 a)) (hy : evA env y = some (.int .i64 b)) (hb : b ≠ 0) (hc : a.tdiv b = c) (hr : -9223372036854775808 ≤ c ∧ c ≤ 9223372036854775807) :
    GOp P ro ⟨dst, .binOp .quo t x y yt, ty, pos, after, guard⟩ env σ (Is (.int .i64 c) σ) :=
  gop_pure _ (by intro c h; cases h) fun X M e w hg ho => by
    have h1 := ho x (by simp [Op.operands]) _ hx
    have h2 := ho y (by simp [Op.operands]) _ hy
    simp only [VRel] at h1 h2
    exact ⟨.int .i64 c, by simp [VRel], by simp [execOp, h1, h2, eqGuard, binOp, Op.intDiv, Sem.run_bind, hb, hc, wrap64 hr]⟩
def opBits : BinOp → IntKind → Int → Int → Option Int
  | .and, k, x, y => some (k.wrap (BitVec.ofInt k.bits x &&& BitVec.ofInt k.bits y).toNat)
  | .or, k, x, y => some (k.wrap (BitVec.ofInt k.bits x ||| BitVec.ofInt k.bits y).toNat)
  | .xor, k, x, y => some (k.wrap (BitVec.ofInt k.bits x ^^^ BitVec.ofInt k.bits y).toNat)
  | .andNot, k, x, y => some (k.wrap (BitVec.ofInt k.bits x &&& ~~~ BitVec.ofInt k.bits y).toNat)
  | .shl, k, x, y => if y < 0 then none else some (k.wrap (x * 2 ^ min y.toNat k.bits))
  | .shr, k, x, y => if y < 0 then none else some (x.fdiv (2 ^ min y.toNat k.bits))
  | _, _, _, _ => none
theorem g_bits {op : BinOp} {x y : Operand} {t yt : TypeId} {k k' : IntKind} {a b c d : Int} (hx : evA env x = some (.int k a)) (hy : evA env y = some (.int k' b)) (hk : k' = k ∨ op = .shl ∨ op = .shr) (hc : opBits op k a b = some c) (hd : c = d) :
    GOp P ro ⟨dst, .binOp op t x y yt, ty, pos, after, guard⟩ env σ (Is (.int k d) σ) :=
  gop_pure _ (by intro c h; cases h) fun X M e w hg ho => by
    have h1 := ho x (by simp [Op.operands]) _ hx
    have h2 := ho y (by simp [Op.operands]) _ hy
    simp only [VRel] at h1 h2
    subst hd
    refine ⟨.int k c, by simp [VRel], ?_⟩
    cases op <;> simp only [opBits, reduceCtorEq] at hc
    case and => rcases hk with rfl | h | h <;> first | (cases h; done) | (cases hc; simp [execOp, h1, h2, eqGuard, binOp, Op.intBits, Sem.run_bind])
    case or => rcases hk with rfl | h | h <;> first | (cases h; done) | (cases hc; simp [execOp, h1, h2, eqGuard, binOp, Op.intBits, Sem.run_bind])
    case xor => rcases hk with rfl | h | h <;> first | (cases h; done) | (cases hc; simp [execOp, h1, h2, eqGuard, binOp, Op.intBits, Sem.run_bind])
    case andNot => rcases hk with rfl | h | h <;> first | (cases h; done) | (cases hc; simp [execOp, h1, h2, eqGuard, binOp, Op.intBits, Sem.run_bind])
    case shl =>
      split at hc
      · cases hc
      · rename_i h0
        cases hc
        simp [execOp, h1, h2, eqGuard, binOp, Op.shift, Sem.run_bind, h0]
    case shr =>
      split at hc
      · cases hc
      · rename_i h0
        cases hc
        simp [execOp, h1, h2, eqGuard, binOp, Op.shift, Sem.run_bind, h0]
end
end Go.Proofs.Ytobcnochlkdpaaa
