/- A row grown into its room; a part of a row appended to beyond its room; slices.overlaps at two owned rows. -/
import Derived.Test.YtobcnochlkdpaaaScc
namespace Go.Proofs.Ytobcnochlkdpaaa
set_option linter.unusedSimpArgs false
set_option linter.unusedVariables false
section
variable {P : Program} {ro : Option Nat} {env : Env} {σ : List Ent} {dst : Option Tmp} {ty : TypeId} {pos : String} {after : Array Edge} {guard : Option (Nat × Bool)}
theorem Rem.mem {e : Ent} {σ σ' : List Ent} (h : Rem σ e σ') : e ∈ σ := by
  obtain ⟨a, c, rfl, _⟩ := h.split; simp
theorem rem_apart {X : Fx} {M : Mem} {w : World} (hg : Good X M σ w) {e e2 : Ent} {σ1 : List Ent} (h : Rem σ e σ1) (h2 : e2 ∈ σ1) {b : Nat} (hb : e.block = some b) : e2.block ≠ some b := by
  obtain ⟨a, c, h3, rfl⟩ := h.split
  have hn := hg.nod
  rw [h3, List.filterMap_append, List.filterMap_cons, hb] at hn
  simp only at hn
  intro h4
  have : b ∈ List.filterMap Ent.block (a ++ c) := List.mem_filterMap.2 ⟨e2, h2, h4⟩
  rw [List.filterMap_append, List.mem_append] at this
  rw [List.nodup_append] at hn
  rcases this with h5 | h5
  · exact hn.2.2 b h5 b (by simp) rfl
  · exact (List.nodup_cons.1 hn.2.1).1 h5
/-- The values of a list of values, in elements of so many cells. -/
def rawsL (sz : Nat) : List Value → Nat → List (List AV)
  | _, 0 => []
  | vs, n + 1 => (vs.take sz).map .raw :: rawsL sz (vs.drop sz) n
theorem rawsL_len (sz : Nat) : ∀ (n : Nat) (vs : List Value), (rawsL sz vs n).length = n
  | 0, _ => rfl
  | n + 1, vs => by rw [rawsL, List.length_cons, rawsL_len sz n]
theorem rawsL_size (sz : Nat) : ∀ (n : Nat) (vs : List Value), vs.length = n * sz → ∀ x ∈ rawsL sz vs n, x.length = sz
  | 0, _, _, x, hx => by cases hx
  | n + 1, vs, h, x, hx => by
    rw [Nat.add_mul, Nat.one_mul] at h
    rcases List.mem_cons.1 hx with rfl | hx
    · simp; omega
    · exact rawsL_size sz n _ (by rw [List.length_drop]; omega) x hx
theorem raws_rel (M : Mem) : ∀ (vs : List Value), VRels M (vs.map .raw) vs
  | [] => by simp [VRels]
  | v :: vs => by simp only [List.map_cons, VRels]; exact ⟨v, vs, rfl, by simp [VRel], raws_rel M vs⟩
theorem rawsL_flat (sz : Nat) : ∀ (n : Nat) (vs : List Value), vs.length = n * sz → (rawsL sz vs n).flatten = vs.map .raw
  | 0, vs, h => by
    have : vs = [] := List.eq_nil_of_length_eq_zero (by omega)
    subst this; rfl
  | n + 1, vs, h => by
    rw [Nat.add_mul, Nat.one_mul] at h
    rw [rawsL, List.flatten_cons, rawsL_flat sz n _ (by rw [List.length_drop]; omega), ← List.map_append, List.take_append_drop]
/-- A row with further elements, of which nothing is known. -/
inductive Opened (m sz : Nat) (F : Value → List (List AV) → List Ent) : AV → List Ent → Prop
  | mk (v : Value) (J : List (List AV)) (h : J.length = m) : Opened m sz F (.slv v) (F v J)
theorem g_openRow {t e e' : TypeId} {sz m : Nat} {x hi : Operand} {v : Value} {L : List (List AV)} {F : Value → List (List AV) → List Ent} {hj : Int} (ht : elemOf P t = some (e', sz)) (hx : evA env x = some (.slv v)) (hu : ∀ v' J, Upd σ (.row v e sz L) (.row v' e sz (L ++ J)) (F v' J)) (hhi : boundA env 0 (some hi) = some hj) (hh : hj = ((L.length + m : Nat) : Int)) (hc : L.length + m ≤ capS v) :
    GOp P ro ⟨dst, .slice t x none (some hi) none, ty, pos, after, guard⟩ env σ (Opened m sz F) :=
  gop_run (by intro c hc; cases hc) fun X M a w hg ho => by
    have h1 := ho x (by simp [Op.operands]) _ hx
    simp only [VRel] at h1
    obtain ⟨hv, _⟩ := h1
    obtain ⟨kk, hkk⟩ := bound_eval ho (by simp [Op.operands]) hhi hh
    obtain ⟨hue, inf, hinf, hsz⟩ := elemOf_spec ht
    obtain ⟨xs, hown, hrel, hs⟩ := hg.ent _ (hu v []).mem
    rcases hown.2 with ⟨rfl, h0⟩ | ⟨g, cap, cur, rfl, hb0, hgg, hnc, hcm, hcs, htk⟩
    · have hL : L = [] := List.eq_nil_of_length_eq_zero h0
      subst hL
      obtain rfl : m = 0 := by simpa [capS, nilS] using hc
      refine ⟨M, nilS, w, .slv nilS, F nilS [], Mem.le_refl M, ?_, by simp [VRel, Value.isSl], .mk _ [] rfl, .inl ?_⟩
      · exact hg.upd (hu nilS []) rfl rfl rfl (fun _ _ _ => rfl) (hg.ent _ (hu nilS []).mem) (.inl rfl)
      · simp at hkk
        simp [execOp, hv, hkk, Instr.sliceAt, Instr.slice, run_underlying hue, Instr.sliceBounds, Sem.run_bind, sizeOf, typeInfo, hinf, hsz, Instr.sliceBound, asIntOf]
    · simp only [capS] at hc
      have hsp : L.length * sz + m * sz ≤ cap * sz := by rw [← Nat.add_mul]; exact Nat.mul_le_mul_right _ hc
      obtain ⟨ys, hys⟩ : ∃ ys, ys = (cur.toList.drop (L.length * sz)).take (m * sz) := ⟨_, rfl⟩
      have hyl : ys.length = m * sz := by rw [hys, List.length_take, List.length_drop, Array.length_toList, hcs]; omega
      refine ⟨M, .slice (some ⟨g, 0, none⟩) (L.length + m) cap, w, .slv _, F (.slice (some ⟨g, 0, none⟩) (L.length + m) cap) (rawsL sz ys m), Mem.le_refl M, ?_, by simp [VRel, Value.isSl], .mk _ _ (rawsL_len sz m ys), .inl ?_⟩
      · refine hg.upd (hu _ _) rfl rfl rfl (fun _ _ _ => rfl) ?_ (.inl rfl)
        refine ⟨xs ++ ys, ?_, ?_, fun y hy => ?_⟩
        · have hl2 : (L ++ rawsL sz ys m).length = L.length + m := by rw [List.length_append, rawsL_len]
          rw [hl2]
          refine ⟨by rw [List.length_append, hown.1, hyl, Nat.add_mul], .inr ⟨g, cap, cur, rfl, hb0, hgg, hc, hcm, hcs, ?_⟩⟩
          rw [← htk, hys, Nat.add_mul, List.take_add]
        · rw [List.flatten_append, rawsL_flat sz m ys hyl]
          exact hrel.append (raws_rel M ys)
        · rcases List.mem_append.1 hy with hy | hy
          · exact hs y hy
          · exact rawsL_size sz m ys hyl y hy
      · have ha : (⟨g, 0, none⟩ : Addr).add 0 = ⟨g, 0, none⟩ := by unfold Addr.add; split <;> simp_all
        simp at hkk
        simp [execOp, hv, hkk, Instr.sliceAt, Instr.slice, run_underlying hue, Instr.sliceBounds, Sem.run_bind, sizeOf, typeInfo, hinf, hsz, Instr.sliceBound, asIntOf, hc, ha]
        rw [if_pos ⟨by omega, by omega⟩, show ((L.length : Int) + (m : Int)).toNat = L.length + m by omega]
/-- The first elements of a row and others: a new row, where there is no room. -/
theorem g_appendOver {t e : TypeId} {sz bytes k : Nat} {s x : Operand} {v : Value} {xv : AV} {L m : List (List AV)} (ht : appOf P t = some (e, sz, bytes)) (hs : evA env s = some (.raw (subS sz v 0 k))) (hx : evA env x = some xv) (hm : Ent.row v e sz L ∈ σ) (hk : k ≤ L.length)
    (hsrc : SrcC σ sz xv m) (hone : ∀ y ∈ m, y.all AV.one = true) (hc : capS v < k + m.length) (hb : (k + m.length) * bytes ≤ 140737488355328) (h0k : L ≠ []) :
    GOp P ro ⟨dst, .call { callee := .builtin .append, args := #[s, x], argTypes := #[t, t] }, ty, pos, after, guard⟩ env σ (Rowed e sz (L.take k ++ m) σ) :=
  gop_run (by intro c h; cases h) fun X M a w hg ho => by
    have h1 := ho s (by simp [Op.operands, Call.operands]) _ hs
    have h2 := ho x (by simp [Op.operands, Call.operands]) _ hx
    simp only [VRel] at h1
    obtain ⟨hue, i, z, hi, hz, hsz, hby, hzl, h0, hb0⟩ := appOf_spec ht
    obtain ⟨sa, scap, hsv, vs, hv1, hv2, hv3, hv4, hv5⟩ := srcC_vals hg hsrc h2
    obtain ⟨xs, hown, hr, hsl⟩ := hg.ent _ hm
    have hl := hown.1
    have hone' : m.flatten.all AV.one = true := by
      rw [List.all_eq_true]
      intro y hy
      obtain ⟨q, hq, hy⟩ := List.mem_flatten.1 hy
      exact List.all_eq_true.1 (hone q hq) y hy
    have hvo := one_of_rels hv1 hone'
    rcases hown.2 with ⟨rfl, hn0⟩ | ⟨g, cap, cur, rfl, hbg, hgg, hnc, hcmx, hcs, htk⟩
    · exact absurd (List.eq_nil_of_length_eq_zero hn0) h0k
    · simp only [capS] at hc
      cases sa with
      | none => have := hv4 rfl; subst this; simp at hc; omega
      | some ad =>
        have h63 : k + m.length ≤ maxLen := by
          have := Nat.le_mul_of_pos_right (k + m.length) hb0
          unfold maxLen; omega
        have hsm : k + m.length ≤ 9223372036854775807 := by unfold maxLen at h63; omega
        have hd1 : subS sz (.slice (some ⟨g, 0, none⟩) L.length cap) 0 k = .slice (some ⟨g, 0, none⟩) k cap := by
          simp [subS, Addr.add]
        rw [hd1] at h1
        have hcell : ∀ (j : Nat) (u : Value), xs[j]? = some u → w.cell? ((⟨g, 0, none⟩ : Addr).add j) = some u := hown.cells (g := g) rfl
        have hks : k * sz ≤ L.length * sz := Nat.mul_le_mul_right _ hk
        have hol : (xs.take (k * sz)).length = k * sz := by rw [List.length_take]; omega
        have hr2 := run_append_grow (P := P) w t ty e i z hue hi hz ⟨g, 0, none⟩ k cap (xs.take (k * sz)) (by rw [hsz]; exact hol) (fun j u hj => hcell j u (by
          rw [List.getElem?_take] at hj
          split at hj
          · exact hj
          · cases hj)) ad m.length scap vs (by rw [hv2, hsz]) (hv5 ad rfl) (by omega) (by omega) (growslice_fits (by omega) (by rw [hby]; exact hb))
        have hge := grownCap_ge w (k + m.length) cap e
        have hcm : grownCap w (k + m.length) cap e ≤ maxLen := grownCap_le_maxLen w (k + m.length) cap e h63
        have hlk : (L.take k ++ m).length = k + m.length := by rw [List.length_append, List.length_take]; omega
        have hzc : ∀ q, (Builtin.zeroCells z.cells q).size = q * sz := fun q => by simp [Builtin.zeroCells, hzl]
        have hon : ((xs.take (k * sz)).toArray ++ vs.toArray).size = (k + m.length) * sz := by
          rw [Array.size_append, List.size_toArray, List.size_toArray, hol, hv2, Nat.add_mul]
        have hgd := alloc_row hg.drew ((xs.take (k * sz)).toArray ++ vs.toArray ++ Builtin.zeroCells z.cells (grownCap w (k + m.length) cap e - (k + m.length))) e sz (l := L.take k ++ m) (cap := grownCap w (k + m.length) cap e) (by rw [hlk]; exact hge) hcm (by rw [Array.size_append, hon, hzc, ← Nat.add_mul]; congr 1; omega) (fun y hy => by
          rcases List.mem_append.1 hy with hy | hy
          · exact hsl y (List.mem_of_mem_take hy)
          · exact hv3 y hy) (by
          rw [hlk, Array.toList_append, List.take_left' (by rw [Array.length_toList]; exact hon), List.flatten_append, flatten_take_sz k hsl]
          have := (hr.take (k * sz)).append hv1
          simpa using this)
        rw [hlk] at hgd
        refine ⟨M, .slice (some ⟨w.heap.size, 0, none⟩) (k + m.length) (grownCap w (k + m.length) cap e), _, .slv _, _, Mem.le_refl M, hgd, by simp [VRel, Value.isSl], .mk _, .inl ?_⟩
        simp only [execOp, resolve, invoke, builtin, Sem.run_bind, Sem.run_pure, Result.andThen_ok, List.map_toArray, List.map_cons, List.map_nil, h1, hsv, hr2]
        rfl
/-- Two owned rows do not overlap. -/
theorem g_overlaps {f x y : Operand} {ats : Array TypeId} {g : FuncId} {fn : Func} {tS tR e1 e2 e : TypeId} {sz sz2 a0 b0 : Nat} {v v2 : Value} {L m : List (List AV)} {σ1 : List Ent} (hf : evA env f = some (.fn (.func g) [] [])) (hfn : P.funcs[g]? = some fn) (hname : (fn.name == "runtime.NumGoroutine") = false) (hb : fn.body.isNone = true) (hnx : Extern.findNext fn = none)
    (hfd : Extern.find fn = some (Extern.SlicesOverlaps.overlaps #[tS, tS] #[tR])) (ht : elemOf P tS = some (e, sz)) (hx : evA env x = some (.slv v2)) (hy : evA env y = some (.raw (subS sz v a0 b0))) (hrem : Rem σ (.row v2 e2 sz2 m) σ1) (hm : Ent.row v e1 sz L ∈ σ1) (hsz : 0 < sz) (hsz2 : 0 < sz2) (hne : L ≠ []) :
    GOp P ro ⟨dst, .call { callee := .value f, args := #[x, y], argTypes := ats }, ty, pos, after, guard⟩ env σ (Is (.bool false) σ) :=
  gop_pure _ (by intro c h; cases h) fun X M a w hg ho => by
    have h0 := ho f (by simp [Op.operands, Call.operands]) _ hf
    have h1 := ho x (by simp [Op.operands, Call.operands]) _ hx
    have h2 := ho y (by simp [Op.operands, Call.operands]) _ hy
    simp only [VRel] at h0 h1 h2
    obtain ⟨ws1, ws2, h0, k1, k2⟩ := h0
    simp only [VRels] at k1 k2
    obtain rfl : ws1 = #[] := by cases ws1; simp at k1; rw [k1]
    obtain rfl : ws2 = #[] := by cases ws2; simp at k2; rw [k2]
    obtain ⟨h1, _⟩ := h1
    obtain ⟨hue, inf, hinf, hsi⟩ := elemOf_spec ht
    obtain ⟨xs2, hown2, hr2, hsl2⟩ := hg.ent _ hrem.mem
    obtain ⟨xs, hown, hr, hsl⟩ := hg.ent _ (hrem.sub.subset hm)
    have hz : ∀ w, (Go.sizeOf e).run P w = .ok sz w := fun w => by simp [Go.sizeOf, typeInfo, hinf, hsi]
    refine ⟨.bool false, by simp [VRel], ?_⟩
    rcases hown.2 with ⟨rfl, hn0⟩ | ⟨gb, cap, cur, rfl, hbg, hgg, hnc, hcmx, hcs, htk⟩
    · exact absurd (List.eq_nil_of_length_eq_zero hn0) hne
    · have hL0 : 0 < L.length := by cases L with | nil => exact absurd rfl hne | cons => simp
      have hy2 : ∃ off, subS sz (.slice (some ⟨gb, 0, none⟩) L.length cap) a0 b0 = .slice (some ⟨gb, off, none⟩) (b0 - a0) (cap - a0) := by
        unfold subS
        by_cases hc : cap = a0
        · exact ⟨0, by simp [hc]⟩
        · exact ⟨a0 * sz, by simp [hc, Addr.add_lit]⟩
      obtain ⟨off, hy2⟩ := hy2
      rw [hy2] at h2
      have hov : (Extern.SlicesOverlaps.overlaps #[tS, tS] #[tR] #[v2, .slice (some ⟨gb, off, none⟩) (b0 - a0) (cap - a0)]).run P w = .ok (.bool false) w := by
        rcases hown2.2 with ⟨rfl, hn2⟩ | ⟨g2, cap2, cur2, rfl, hbg2, hgg2, hnc2, hcmx2, hcs2, htk2⟩
        · change Sem.run P (α := Value) (do
            let some t := (#[tS, tS] : Array TypeId)[0]? | stuck "slices.overlaps: no parameter types"
            let .slice elem ← underlying t | stuck "slices.overlaps: slice type expected"
            let size ← sizeOf elem
            pure (Value.bool false)) w = _
          simp [run_underlying hue, hz]
        · have hap : g2 ≠ gb := fun e => (rem_apart hg hrem hm (b := g2) (by simp [Ent.block, Value.ownBlock])) (by simp [Ent.block, Value.ownBlock, e])
          refine Lib.run_overlaps_apart w tS tR e hue sz hz ⟨g2, 0, none⟩ ⟨gb, off, none⟩ m.length cap2 _ _ hap e2 e1 (cap2 * sz2) (cap * sz) ?_ ?_ ?_ ?_ ?_
          · simp [World.shape?, hgg2, hcs2]
          · simp [World.shape?, hgg, hcs]
          · have := Nat.mul_pos (show 0 < cap by omega) hsz; omega
          · simp [World.frozen?, hgg2]
          · simp [World.frozen?, hgg2]
      have hrun := run_callFunc_extern (P := P) hfn hname hb hnx hfd #[v2, .slice (some ⟨gb, off, none⟩) (b0 - a0) (cap - a0)] w
      rw [hov] at hrun
      simp [execOp, resolve, invoke, Sem.run_bind, Deferred.ofValue, h0, h1, h2, hrun]
end
end Go.Proofs.Ytobcnochlkdpaaa
