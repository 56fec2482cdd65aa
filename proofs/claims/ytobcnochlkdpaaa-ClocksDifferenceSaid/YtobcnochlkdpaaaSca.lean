/- The capacity of a nil slice; the first elements of an owned row, its room kept. -/
import Derived.Test.YtobcnochlkdpaaaSs
namespace Go.Proofs.Ytobcnochlkdpaaa
set_option linter.unusedSimpArgs false
set_option linter.unusedVariables false
section
variable {P : Program} {ro : Option Nat} {env : Env} {σ : List Ent} {dst : Option Tmp} {ty : TypeId} {pos : String} {after : Array Edge} {guard : Option (Nat × Bool)}
theorem g_capNil {x : Operand} {t e : TypeId} {sz : Nat} (ht : elemOf P t = some (e, sz)) (hx : evA env x = some (.slv nilS)) :
    GOp P ro ⟨dst, .call { callee := .builtin .cap, args := #[x], argTypes := #[t] }, ty, pos, after, guard⟩ env σ (Is (.int .i64 0) σ) :=
  gop_pure _ (by intro c h; cases h) fun X M en w hg ho => by
    have h1 := ho x (by simp [Op.operands, Call.operands]) _ hx
    simp only [VRel] at h1
    obtain ⟨hue, inf, hinf, hsz⟩ := elemOf_spec ht
    refine ⟨.int .i64 0, by simp [VRel], ?_⟩
    simp [execOp, resolve, invoke, builtin, Builtin.cap_, Sem.run_bind, run_underlying hue, h1.1, goInt]
theorem bound_eval {M : Mem} {a : Act} {o : Oper} {hi : Operand} {hj : Int} {h d : Nat} (ho : OpRel M env a o) (hm : hi ∈ o.op.operands) (hhi : boundA env d (some hi) = some hj) (hh : hj = (h : Int)) : ∃ k, a.eval hi = .int k (h : Int) := by
  simp only [boundA] at hhi
  split at hhi
  · rename_i k m he
    cases hhi
    have := ho hi hm _ he
    simp only [VRel] at this
    exact ⟨_, this.trans (by rw [hh])⟩
  · cases hhi
theorem g_sliceNilS {t e : TypeId} {sz : Nat} {x hi : Operand} {hj : Int} (ht : elemOf P t = some (e, sz)) (hx : evA env x = some (.slv nilS)) (hhi : boundA env 0 (some hi) = some hj) (hh : hj = ((0 : Nat) : Int)) :
    GOp P ro ⟨dst, .slice t x none (some hi) none, ty, pos, after, guard⟩ env σ (Is (.slv nilS) σ) :=
  gop_pure _ (by intro c hc; cases hc) fun X M a w hg ho => by
    have h1 := ho x (by simp [Op.operands]) _ hx
    simp only [VRel] at h1
    obtain ⟨k, hk⟩ := bound_eval ho (by simp [Op.operands]) hhi hh
    obtain ⟨hue, inf, hinf, hsz⟩ := elemOf_spec ht
    refine ⟨nilS, by simp [VRel, Value.isSl], ?_⟩
    simp [execOp, h1.1, hk, Instr.sliceAt, Instr.slice, run_underlying hue, Instr.sliceBounds, Sem.run_bind, sizeOf, typeInfo, hinf, hsz, Instr.sliceBound, asIntOf]
theorem ownsRow_cutN {w : World} {base g cap n k sz : Nat} {e : TypeId} {xs : List Value} (h : w.ownsRow base e sz (.slice (some ⟨g, 0, none⟩) n cap) n xs) (hk : k ≤ n) : w.ownsRow base e sz (.slice (some ⟨g, 0, none⟩) k cap) k (xs.take (k * sz)) := by
  rcases h.2 with ⟨h0, _⟩ | ⟨g', cap', cur, hv, hbg, hg, hnc, hcm, hcs, htk⟩
  · cases h0
  · cases hv
    have hl := h.1
    have hks : k * sz ≤ n * sz := Nat.mul_le_mul_right sz hk
    refine ⟨by rw [List.length_take]; omega, .inr ⟨g, cap, cur, rfl, hbg, hg, by omega, hcm, hcs, ?_⟩⟩
    rw [← htk, List.take_take]; congr 1; omega
/-- The first elements of an owned row: owned in its place. -/
theorem g_cutRow {t e e' : TypeId} {sz k : Nat} {x hi : Operand} {v : Value} {L : List (List AV)} {F : Value → List Ent} {hj : Int} (ht : elemOf P t = some (e', sz)) (hx : evA env x = some (.slv v)) (hu : ∀ v', Upd σ (.row v e sz L) (.row v' e sz (L.take k)) (F v')) (hhi : boundA env 0 (some hi) = some hj) (hh : hj = (k : Int)) (hk : k ≤ L.length) :
    GOp P ro ⟨dst, .slice t x none (some hi) none, ty, pos, after, guard⟩ env σ (Grew F) :=
  gop_run (by intro c hc; cases hc) fun X M a w hg ho => by
    have h1 := ho x (by simp [Op.operands]) _ hx
    simp only [VRel] at h1
    obtain ⟨hv, _⟩ := h1
    obtain ⟨kk, hkk⟩ := bound_eval ho (by simp [Op.operands]) hhi hh
    obtain ⟨hue, inf, hinf, hsz⟩ := elemOf_spec ht
    obtain ⟨xs, hown, hrel, hs⟩ := hg.ent _ (hu v).mem
    have hrel' : VRels M (L.take k).flatten (xs.take (k * sz)) := by
      have e1 : (L.take k).flatten = L.flatten.take (k * sz) := by
        have := flatten_size (l := L.take k) (sz := sz) (fun y hy => hs y (List.mem_of_mem_take hy))
        rw [List.length_take, Nat.min_eq_left hk] at this
        have e2 : L.flatten = (L.take k).flatten ++ (L.drop k).flatten := by rw [← List.flatten_append, List.take_append_drop]
        rw [e2, List.take_left' this]
      rw [e1]
      exact hrel.take _
    rcases hown.2 with ⟨rfl, h0⟩ | ⟨g, cap, cur, rfl, hb0, hgg, hnc, hcm, hcs, htk⟩
    · have hL : L = [] := List.eq_nil_of_length_eq_zero h0
      subst hL
      obtain rfl : k = 0 := by simpa using hk
      refine ⟨M, nilS, w, .slv nilS, F nilS, Mem.le_refl M, ?_, by simp [VRel, Value.isSl], .mk _, .inl ?_⟩
      · exact hg.upd (hu nilS) rfl rfl rfl (fun _ _ _ => rfl) (hg.ent _ (hu nilS).mem) (.inl rfl)
      · simp [execOp, hv, hkk, Instr.sliceAt, Instr.slice, run_underlying hue, Instr.sliceBounds, Sem.run_bind, sizeOf, typeInfo, hinf, hsz, Instr.sliceBound, asIntOf]
    · have hrow := ownsRow_cutN hown hk
      refine ⟨M, .slice (some ⟨g, 0, none⟩) k cap, w, .slv _, F (.slice (some ⟨g, 0, none⟩) k cap), Mem.le_refl M, ?_, by simp [VRel, Value.isSl], .mk _, .inl ?_⟩
      · refine hg.upd (hu _) rfl rfl rfl (fun _ _ _ => rfl) ?_ (.inl rfl)
        refine ⟨_, ?_, hrel', fun y hy => hs y (List.mem_of_mem_take hy)⟩
        rw [List.length_take, Nat.min_eq_left hk]
        exact hrow
      · have hkc : k ≤ cap := by omega
        have ha : (⟨g, 0, none⟩ : Addr).add 0 = ⟨g, 0, none⟩ := by unfold Addr.add; split <;> simp_all
        simp [execOp, hv, hkk, Instr.sliceAt, Instr.slice, run_underlying hue, Instr.sliceBounds, Sem.run_bind, sizeOf, typeInfo, hinf, hsz, Instr.sliceBound, asIntOf, hkc, ha]
theorem run_append_nilZ (w : World) (t ti ty' e : TypeId) (i : TypeInfo) (z : Value) (ik : IntKind) (ht : P.underlying t = some (.slice e)) (hti : P.underlying ti = some (.int ik)) (hi : P.info? e = some i) (hz : i.zero = some z) (n : Nat) (k : IntKind) (h0 : 0 < n) (hs : 0 < i.size) (h63 : (n : Int) ≤ 9223372036854775807) (h48 : n * i.bytes ≤ 281474976710656) :
    (Builtin.append_ #[t, ti] ty' #[.slice none 0 0, .int k n]).run P w =
      .ok (.slice (some ⟨w.heap.size, 0, none⟩) n (grownCap w n 0 e)) (w.drew.alloc (.cells (Builtin.zeroCells z.cells n ++ Builtin.zeroCells z.cells (grownCap w n 0 e - n)) e)) := by
  have hn : n ≠ 0 := by omega
  have h1 : ¬ ((n : Int) < 0) := by omega
  have h63' : ¬ (9223372036854775807 < (n : Int)) := by omega
  have h48' : ¬ (281474976710656 < Builtin.nextslicecap n 0 * i.bytes) := by rw [nextslicecap_zero h0]; omega
  have h48i : ¬ (281474976710656 < (n : Int) * (i.bytes : Int)) := by
    have : ((n * i.bytes : Nat) : Int) ≤ 281474976710656 := by omega
    rw [Int.natCast_mul] at this; omega
  have hw : IntKind.i64.wrap (n : Int) = n := wrap64 ⟨by omega, h63⟩
  have hsz : i.size ≠ 0 := by omega
  simp [Builtin.append_, run_underlying ht, run_underlying hti, sizeOf, typeInfo, zeroValue, hi, hz, hw, asInt, asIntOf, h1, hn, h63', h48', h48i, hsz, Question.forced, run_firstCells_none, newRow, grownCap]
  intro hz0
  have := Nat.mul_pos h0 hs
  omega
/-- So many zeros behind nil. -/
theorem g_appendZ {t ti e : TypeId} {sz bytes n : Nat} {s x : Operand} {kx ik : IntKind} {j : Int} {z : List AV} (ht : appOf P t = some (e, sz, bytes)) (hti : P.underlying ti = some (.int ik)) (hz : zeroA P e = some z) (hs : evA env s = some (.slv nilS)) (hx : evA env x = some (.int kx j)) (hj : j = (n : Int)) (h0 : 0 < n) (hb : n * bytes ≤ 140737488355328) :
    GOp P ro ⟨dst, .call { callee := .builtin .append, args := #[s, x], argTypes := #[t, ti] }, ty, pos, after, guard⟩ env σ (Rowed e sz (List.replicate n z) σ) :=
  gop_run (by intro c h; cases h) fun X M a w hg ho => by
    have h1 := ho s (by simp [Op.operands, Call.operands]) _ hs
    have h2 := ho x (by simp [Op.operands, Call.operands]) _ hx
    simp only [VRel] at h1 h2
    obtain ⟨h1, _⟩ := h1
    obtain ⟨hue, inf, z', hinf, hz', hsz, hby, hzl, hs0, hb0⟩ := appOf_spec ht
    obtain ⟨i', zv, hi', hzv, rfl⟩ := zeroA_spec hz
    rw [hinf] at hi'; cases hi'
    rw [hz'] at hzv; cases hzv
    subst hj
    have hn63 : n ≤ 140737488355328 := Nat.le_trans (Nat.le_mul_of_pos_right n hb0) hb
    have hr := run_append_nilZ (P := P) w t ti ty e inf z' ik hue hti hinf hz' n kx h0 (by omega) (by omega) (by rw [hby]; omega)
    have hge := grownCap_ge w n 0 e
    have hcm : grownCap w n 0 e ≤ maxLen := grownCap_le_maxLen w n 0 e (by unfold maxLen; omega)
    have hzL : (z'.cells.toList.map cA).length = sz := by simp [hzl]
    have hzc : ∀ m, (Builtin.zeroCells z'.cells m).size = m * sz := fun m => by simp [Builtin.zeroCells, hzl]
    have hgd := alloc_row hg.drew (Builtin.zeroCells z'.cells n ++ Builtin.zeroCells z'.cells (grownCap w n 0 e - n)) e sz (l := List.replicate n (z'.cells.toList.map cA)) (cap := grownCap w n 0 e) (by simpa using hge) hcm (by rw [Array.size_append, hzc, hzc, ← Nat.add_mul]; congr 1; omega) (fun x hx => by rw [(List.mem_replicate.1 hx).2, hzL]) (by
      rw [List.length_replicate, Array.toList_append, List.take_left' (by rw [Array.length_toList, hzc])]
      have h3 := zeros_rel M (z := z') (n := n * z'.cells.size) (fun _ => by omega)
      have e1 : zerosA (z'.cells.toList.map cA) (n * z'.cells.size) = (List.replicate n (z'.cells.toList.map cA)).flatten := by
        apply List.ext_getElem?
        intro k
        by_cases hk : k < n * sz
        · rw [flatten_replicate_get _ _ _ (by rw [hzL]; exact hk)]
          simp only [zerosA, hzl, List.getElem?_map, List.getElem?_range hk, Option.map_some, hzL]
          have hlt : k % sz < (z'.cells.toList.map cA).length := by rw [hzL]; exact Nat.mod_lt _ hs0
          have e2 : ∃ q, (z'.cells.toList.map cA)[k % sz]? = some q := ⟨_, List.getElem?_eq_getElem hlt⟩
          rw [List.getElem?_map] at e2
          obtain ⟨q, e2⟩ := e2
          rw [e2]; rfl
        · rw [List.getElem?_eq_none (by simp [zerosA, hzl]; omega), List.getElem?_eq_none (by simp [hzl]; omega)]
      rw [← e1]; exact h3)
    simp only [List.length_replicate] at hgd
    refine ⟨M, .slice (some ⟨w.heap.size, 0, none⟩) n (grownCap w n 0 e), _, .slv _, _, Mem.le_refl M, hgd, by simp [VRel, Value.isSl], .mk _, .inl ?_⟩
    simp only [execOp, resolve, invoke, builtin, Sem.run_bind, Sem.run_pure, Result.andThen_ok, List.map_toArray, List.map_cons, List.map_nil, h1, h2, hr]
    rfl
end
end Go.Proofs.Ytobcnochlkdpaaa
