/- Zeros appended behind a part of a row where there is no room; an empty slice held against nil. -/
import Derived.Test.YtobcnochlkdpaaaScd
import Derived.Test.YtobcnochlkdpaaaSca
import Derived.Lib.AppendZerosOnto
namespace Go.Proofs.Ytobcnochlkdpaaa
set_option linter.unusedSimpArgs false
set_option linter.unusedVariables false
section
variable {P : Program} {ro : Option Nat} {env : Env} {σ : List Ent} {dst : Option Tmp} {ty : TypeId} {pos : String} {after : Array Edge} {guard : Option (Nat × Bool)}
set_option maxHeartbeats 2000000 in
theorem g_appendOverZ {t ti e : TypeId} {sz bytes k n : Nat} {s x : Operand} {v : Value} {kx ik : IntKind} {j : Int} {z : List AV} {L : List (List AV)} (ht : appOf P t = some (e, sz, bytes)) (hti : P.underlying ti = some (.int ik)) (hz : zeroA P e = some z) (hs : evA env s = some (.raw (subS sz v 0 k))) (hx : evA env x = some (.int kx j)) (hj : j = (n : Int)) (h0 : 0 < n) (hm : Ent.row v e sz L ∈ σ) (hk : k ≤ L.length)
    (hc : capS v < k + n) (hb : (k + n) * bytes ≤ 140737488355328) (h0k : L ≠ []) :
    GOp P ro ⟨dst, .call { callee := .builtin .append, args := #[s, x], argTypes := #[t, ti] }, ty, pos, after, guard⟩ env σ (Rowed e sz (L.take k ++ List.replicate n z) σ) :=
  gop_run (by intro c h; cases h) fun X M a w hg ho => by
    have h1 := ho s (by simp [Op.operands, Call.operands]) _ hs
    have h2 := ho x (by simp [Op.operands, Call.operands]) _ hx
    simp only [VRel] at h1 h2
    obtain ⟨hue, inf, z', hinf, hz', hsz, hby, hzl, hs0, hb0⟩ := appOf_spec ht
    obtain ⟨i', zv, hi', hzv, rfl⟩ := zeroA_spec hz
    rw [hinf] at hi'; cases hi'
    rw [hz'] at hzv; cases hzv
    subst hj
    obtain ⟨xs, hown, hr, hsl⟩ := hg.ent _ hm
    have hl := hown.1
    rcases hown.2 with ⟨rfl, hn0⟩ | ⟨g, cap, cur, rfl, hbg, hgg, hnc, hcmx, hcs, htk⟩
    · exact absurd (List.eq_nil_of_length_eq_zero hn0) h0k
    · simp only [capS] at hc
      have h63 : k + n ≤ maxLen := by
        have := Nat.le_mul_of_pos_right (k + n) hb0
        unfold maxLen; omega
      have hsm : k + n ≤ 9223372036854775807 := by unfold maxLen at h63; omega
      have hd1 : subS sz (.slice (some ⟨g, 0, none⟩) L.length cap) 0 k = .slice (some ⟨g, 0, none⟩) k cap := by
        simp [subS, Addr.add]
      rw [hd1] at h1
      have hcell : ∀ (j : Nat) (u : Value), xs[j]? = some u → w.cell? ((⟨g, 0, none⟩ : Addr).add j) = some u := hown.cells (g := g) rfl
      have hks : k * sz ≤ L.length * sz := Nat.mul_le_mul_right _ hk
      have hol : (xs.take (k * sz)).length = k * sz := by rw [List.length_take]; omega
      have hold := run_firstCells_some (P := P) w.drew inf.size k ⟨g, 0, none⟩ k cap (xs.take (k * sz)) (by rw [hsz]; exact hol) (fun j u hj => by
        have := hcell j u (by
          rw [List.getElem?_take] at hj
          split at hj
          · exact hj
          · cases hj)
        simpa using this)
      have hnb : n * inf.bytes ≤ 140737488355328 := by
        rw [hby]
        exact Nat.le_trans (Nat.mul_le_mul_right _ (by omega)) hb
      have hr2 := Go.Lib.run_append_grow_zeros (P := P) w t ti ty e inf z' kx ik hue hti hinf hz' (some ⟨g, 0, none⟩) k cap (xs.take (k * sz)) hold n h0 (by omega) (by omega) (by omega) (by omega) (growslice_fits (by omega) (by rw [hby]; exact hb))
      have hge := grownCap_ge w (k + n) cap e
      have hcm : grownCap w (k + n) cap e ≤ maxLen := grownCap_le_maxLen w (k + n) cap e h63
      have hzL : (z'.cells.toList.map cA).length = sz := by simp [hzl]
      have hlk : (L.take k ++ List.replicate n (z'.cells.toList.map cA)).length = k + n := by rw [List.length_append, List.length_take, List.length_replicate]; omega
      have hzc : ∀ q, (Builtin.zeroCells z'.cells q).size = q * sz := fun q => by simp [Builtin.zeroCells, hzl]
      have hon : ((xs.take (k * sz)).toArray ++ Builtin.zeroCells z'.cells n).size = (k + n) * sz := by
        rw [Array.size_append, List.size_toArray, hol, hzc, Nat.add_mul]
      have hgd := alloc_row hg.drew ((xs.take (k * sz)).toArray ++ Builtin.zeroCells z'.cells n ++ Builtin.zeroCells z'.cells (grownCap w (k + n) cap e - (k + n))) e sz (l := L.take k ++ List.replicate n (z'.cells.toList.map cA)) (cap := grownCap w (k + n) cap e) (by rw [hlk]; exact hge) hcm (by rw [Array.size_append, hon, hzc, ← Nat.add_mul]; congr 1; omega) (fun y hy => by
        rcases List.mem_append.1 hy with hy | hy
        · exact hsl y (List.mem_of_mem_take hy)
        · rw [(List.mem_replicate.1 hy).2, hzL]) (by
        rw [hlk, Array.toList_append, List.take_left' (by rw [Array.length_toList]; exact hon), List.flatten_append, flatten_take_sz k hsl]
        have h3 := zeros_rel M (z := z') (n := n * z'.cells.size) (fun _ => by omega)
        have e1 : zerosA (z'.cells.toList.map cA) (n * z'.cells.size) = (List.replicate n (z'.cells.toList.map cA)).flatten := by
          apply List.ext_getElem?
          intro k
          by_cases hk : k < n * sz
          · rw [flatten_replicate_get _ _ _ (by rw [hzL]; exact hk)]
            simp only [zerosA, hzl, List.getElem?_map, List.getElem?_range hk, Option.map_some, hzL]
            have hlt : k % sz < (z'.cells.toList.map cA).length := by rw [hzL]; exact Nat.mod_lt _ hs0
            have e2 : ∃ q, (z'.cells.toList.map cA)[k % sz]? = some q := ⟨_, List.getElem?_eq_getElem hlt⟩
            rw [List.getElem?_map] at e2
            obtain ⟨q, e2⟩ := e2
            rw [e2]; rfl
          · rw [List.getElem?_eq_none (by simp [zerosA, hzl]; omega), List.getElem?_eq_none (by simp [hzl]; omega)]
        rw [e1] at h3
        have := (hr.take (k * sz)).append h3
        rw [Array.toList_append]
        exact this)
      rw [hlk] at hgd
      refine ⟨M, .slice (some ⟨w.heap.size, 0, none⟩) (k + n) (grownCap w (k + n) cap e), _, .slv _, _, Mem.le_refl M, hgd, by simp [VRel, Value.isSl], .mk _, .inl ?_⟩
      simp only [execOp, resolve, invoke, builtin, Sem.run_bind, Sem.run_pure, Result.andThen_ok, List.map_toArray, List.map_cons, List.map_nil, h1, h2, hr2]
      rfl
theorem run_equalIn_nilN {t e : TypeId} (ht : P.underlying t = some (.slice e)) (d : Nat) (n c : Nat) (w : World) : (Op.equalIn (d + 1) t (.slice none n c) (.slice none 0 0)).run P w = .ok true w := by
  simp only [Op.equalIn, Sem.run_bind, run_underlying ht, Result.andThen_ok, Sem.run_pure]
  rfl
theorem run_eql_nilN {t e : TypeId} (ht : P.underlying t = some (.slice e)) (n c : Nat) (w : World) : (binOp .eql t (.slice none n c) (.slice none 0 0)).run P w = .ok (.bool true) w := by
  have h := run_equalIn_nilN (P := P) ht 9999 n c w
  simp only [binOp]
  simp only [Op.equal, Op.maxDepth, Sem.run_bind, Sem.run_map, h]
  rfl
/-- A new row: the first elements of one, and others of which nothing is known. -/
inductive ZRow (L : List (List AV)) (k n : Nat) (e : TypeId) (sz : Nat) (σ : List Ent) : AV → List Ent → Prop
  | mk (v : Value) (Z : List (List AV)) (h : Z.length = n) : ZRow L k n e sz σ (.slv v) (.row v e sz (L.take k ++ Z) :: σ)
theorem gop_mono {o : Oper} {R R' : AV → List Ent → Prop} (h : GOp P ro o env σ R) (hr : ∀ v σ', R v σ' → R' v σ') : GOp P ro o env σ R' :=
  ⟨fun X M a w hg ho K Qx hK => h.run X M a w hg ho K Qx fun M' u w' v σ' hm hgd hv hq => hK M' u w' v σ' hm hgd hv (hr v σ' hq)⟩
theorem g_appendOverE {t ti e : TypeId} {sz bytes k n : Nat} {s x : Operand} {v : Value} {kx ik : IntKind} {j : Int} {z : List AV} {L : List (List AV)} (ht : appOf P t = some (e, sz, bytes)) (hti : P.underlying ti = some (.int ik)) (hz : zeroA P e = some z) (hs : evA env s = some (.raw (subS sz v 0 k))) (hx : evA env x = some (.int kx j)) (hj : j = (n : Int)) (h0 : 0 < n) (hm : Ent.row v e sz L ∈ σ) (hk : k ≤ L.length)
    (hc : capS v < k + n) (hb : (k + n) * bytes ≤ 140737488355328) (h0k : L ≠ []) :
    GOp P ro ⟨dst, .call { callee := .builtin .append, args := #[s, x], argTypes := #[t, ti] }, ty, pos, after, guard⟩ env σ (ZRow L k n e sz σ) :=
  gop_mono (g_appendOverZ ht hti hz hs hx hj h0 hm hk hc hb h0k) (by rintro _ _ ⟨u⟩; exact .mk u _ (List.length_replicate))
/-- An empty slice is nil, or it is not. -/
inductive SomeB (σ : List Ent) : AV → List Ent → Prop
  | mk (b : Bool) : SomeB σ (.bool b) σ
theorem g_eqlNilE {x : Operand} {t e yt : TypeId} {sz : Nat} {L : List (List AV)} (ht : P.underlying t = some (.slice e)) (hx : evA env x = some (.dl sz L)) :
    GOp P ro ⟨dst, .binOp .eql t x (.const nilS) yt, ty, pos, after, guard⟩ env σ (SomeB σ) :=
  gop_run (by intro c h; cases h) fun X M a w hg ho => by
    have h1 := ho x (by simp [Op.operands]) _ hx
    simp only [VRel] at h1
    obtain ⟨ad, cap, hv, _, _, _, h2⟩ := h1
    have e : a.eval (.const nilS) = nilS := rfl
    cases ad with
    | some ad =>
      refine ⟨M, .bool false, w, .bool false, σ, Mem.le_refl M, hg, by simp [VRel], .mk _, .inl ?_⟩
      simp only [execOp, e, hv, Sem.run_bind, run_eql_nil ht]
      rfl
    | none =>
      refine ⟨M, .bool true, w, .bool true, σ, Mem.le_refl M, hg, by simp [VRel], .mk _, .inl ?_⟩
      simp only [execOp, e, hv, Sem.run_bind, run_eql_nilN ht]
      rfl
end
end Go.Proofs.Ytobcnochlkdpaaa
