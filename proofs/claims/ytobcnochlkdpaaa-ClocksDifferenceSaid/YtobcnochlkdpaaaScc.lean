/- The capacity of an owned row; copies into it; a row grown into its room; a part of it appended to beyond its room; slices.overlaps. -/
import Derived.Test.YtobcnochlkdpaaaSca
import Derived.Laws.CopyRow
import Derived.Lib.Overlaps
namespace Go.Proofs.Ytobcnochlkdpaaa
set_option linter.unusedSimpArgs false
set_option linter.unusedVariables false
section
variable {P : Program} {ro : Option Nat} {env : Env} {σ : List Ent} {dst : Option Tmp} {ty : TypeId} {pos : String} {after : Array Edge} {guard : Option (Nat × Bool)}
def capS : Value → Nat
  | .slice _ _ c => c
  | _ => 0
theorem g_capRow {x : Operand} {t e e' : TypeId} {sz : Nat} {v : Value} {L : List (List AV)} (ht : elemOf P t = some (e, sz)) (hx : evA env x = some (.slv v)) (hm : Ent.row v e' sz L ∈ σ) :
    GOp P ro ⟨dst, .call { callee := .builtin .cap, args := #[x], argTypes := #[t] }, ty, pos, after, guard⟩ env σ (Is (.int .i64 (capS v)) σ) :=
  gop_pure _ (by intro c h; cases h) fun X M en w hg ho => by
    have h1 := ho x (by simp [Op.operands, Call.operands]) _ hx
    simp only [VRel] at h1
    obtain ⟨h1, _⟩ := h1
    obtain ⟨hue, inf, hinf, hsz⟩ := elemOf_spec ht
    obtain ⟨xs, hown, _, _⟩ := hg.ent _ hm
    refine ⟨.int .i64 (capS v), by simp [VRel], ?_⟩
    rcases hown.2 with ⟨rfl, h0⟩ | ⟨g, cap, cur, rfl, _, _, hnc, _⟩
    · simp [execOp, resolve, invoke, builtin, Builtin.cap_, Sem.run_bind, run_underlying hue, h1, goInt, capS]
    · simp [execOp, resolve, invoke, builtin, Builtin.cap_, Sem.run_bind, run_underlying hue, h1, goInt, capS]
/-- A part of a list. -/
def cut {α : Type} (L : List α) (a b : Nat) : List α := (L.drop a).take (b - a)
/-- What copy and append may take from. -/
inductive SrcC (σ : List Ent) (sz : Nat) : AV → List (List AV) → Prop
  | s {x : AV} {m : List (List AV)} (h : Src σ x sz m) : SrcC σ sz x m
  | p {v : Value} {e : TypeId} {L : List (List AV)} {a b : Nat} (h : Ent.row v e sz L ∈ σ) (h1 : a ≤ b) (h2 : b ≤ L.length) : SrcC σ sz (.raw (subS sz v a b)) (cut L a b)
theorem cut_flat {sz : Nat} {L : List (List AV)} {a b : Nat} (h : ∀ x ∈ L, x.length = sz) : (cut L a b).flatten = cut L.flatten (a * sz) (b * sz) := by
  unfold cut
  rw [flatten_take_sz (b - a) (fun x hx => h x (List.mem_of_mem_drop hx)), flatten_drop_sz a h, Nat.sub_mul]
theorem cut_len {α : Type} {L : List α} {a b : Nat} (h : b ≤ L.length) : (cut L a b).length = b - a := by unfold cut; rw [List.length_take, List.length_drop]; omega
theorem srcC_vals {X : Fx} {M : Mem} {w : World} (hg : Good X M σ w) {x : AV} {sz : Nat} {m : List (List AV)} (h : SrcC σ sz x m) {u : Value} (hu : VRel M x u) :
    ∃ a cap, u = .slice a m.length cap ∧ ∃ vs : List Value, VRels M m.flatten vs ∧ vs.length = m.length * sz ∧ (∀ x ∈ m, x.length = sz) ∧ (a = none → m = []) ∧ ∀ ad, a = some ad → ∀ (j : Nat) (v : Value), vs[j]? = some v → w.cell? (ad.add j) = some v := by
  cases h with
  | s h => exact src_vals hg h hu
  | @p v e L a b hm h1 h2 =>
    simp only [VRel] at hu
    subst hu
    obtain ⟨xs, hown, hr, hs⟩ := hg.ent _ hm
    have hl := hown.1
    have hms : ∀ x ∈ cut L a b, x.length = sz := fun x hx => hs x (List.mem_of_mem_drop (List.mem_of_mem_take hx))
    have hba : b * sz ≤ L.length * sz := Nat.mul_le_mul_right _ h2
    have hab : a * sz ≤ b * sz := Nat.mul_le_mul_right _ h1
    have hvr : VRels M (cut L a b).flatten (cut xs (a * sz) (b * sz)) := by
      rw [cut_flat hs]
      exact (hr.drop _).take _
    have hvl : (cut xs (a * sz) (b * sz)).length = (cut L a b).length * sz := by rw [cut_len (by omega), cut_len h2, Nat.sub_mul]
    rcases hown.2 with ⟨rfl, h0⟩ | ⟨g, cap, cur, rfl, hbg, hgg, hnc, hcm, hcs, htk⟩
    · obtain rfl : a = 0 := by omega
      obtain rfl : b = 0 := by omega
      exact ⟨none, 0, by simp [subS, cut], _, hvr, hvl, hms, fun _ => by simp [cut], by simp⟩
    · refine ⟨some (if cap = a then ⟨g, 0, none⟩ else (⟨g, 0, none⟩ : Addr).add (a * sz)), cap - a, ?_, _, hvr, hvl, hms, by simp, ?_⟩
      · rw [cut_len h2]
        show Value.slice (if cap = a then some ⟨g, 0, none⟩ else (some (⟨g, 0, none⟩ : Addr)).map (·.add (a * sz))) (b - a) (cap - a) = _
        split <;> rfl
      · rintro ad ⟨⟩ j u hj
        have hcell : ∀ (j : Nat) (u : Value), xs[j]? = some u → w.cell? ((⟨g, 0, none⟩ : Addr).add j) = some u := hown.cells (g := g) rfl
        by_cases hc : cap = a
        · have : (cut xs (a * sz) (b * sz)).length = 0 := by rw [hvl, cut_len h2, show b - a = 0 by omega, Nat.zero_mul]
          rw [List.getElem?_eq_none (by omega)] at hj; cases hj
        · rw [if_neg hc]
          unfold cut at hj
          rw [List.getElem?_take] at hj
          split at hj
          · rw [List.getElem?_drop] at hj
            have := hcell _ _ hj
            rw [Addr.add_lit] at this ⊢
            rw [Addr.add_lit]
            simpa [Nat.add_assoc] using this
          · cases hj
/-- A list with another one laid over it from a place on. -/
def over {α : Type} (L : List α) (a : Nat) (m : List α) : List α := L.take a ++ m ++ L.drop (a + m.length)
theorem over_flat {sz : Nat} {L m : List (List AV)} {a : Nat} (h : ∀ x ∈ L, x.length = sz) (hm : ∀ x ∈ m, x.length = sz) : (over L a m).flatten = over L.flatten (a * sz) m.flatten := by
  unfold over
  rw [List.flatten_append, List.flatten_append, flatten_take_sz a h, flatten_drop_sz _ h, flatten_size hm, Nat.add_mul]
theorem over_len {α : Type} {L m : List α} {a : Nat} (h : a + m.length ≤ L.length) : (over L a m).length = L.length := by
  unfold over; rw [List.length_append, List.length_append, List.length_take, List.length_drop]; omega
theorem g_copy {d x : Operand} {t t' e : TypeId} {sz bytes : Nat} {v : Value} {L m : List (List AV)} {xv : AV} {lo hi c : Nat} {σ1 : List Ent} (ht : appOf P t = some (e, sz, bytes)) (hd : evA env d = some (.raw (subS sz v lo hi))) (hx : evA env x = some xv)
    (hsrc : SrcC σ sz xv m) (hu : Upd σ (.row v e sz L) (.row v e sz (over L lo (m.take c))) σ1) (hlo : lo ≤ hi) (hhi : hi ≤ L.length) (hc : c = min m.length (hi - lo)) (hone : ∀ y ∈ m.take c, y.all AV.one = true) :
    GOp P ro ⟨dst, .call { callee := .builtin .copy, args := #[d, x], argTypes := #[t, t'] }, ty, pos, after, guard⟩ env σ (Is (.int .i64 c) σ1) :=
  gop_run (by intro c h; cases h) fun X M a w hg ho => by
    have h1 := ho d (by simp [Op.operands, Call.operands]) _ hd
    have h2 := ho x (by simp [Op.operands, Call.operands]) _ hx
    simp only [VRel] at h1
    obtain ⟨hue, inf, z, hinf, hz, hsz, hby, hzl, h0, hb0⟩ := appOf_spec ht
    obtain ⟨sa, scap, hsv, vs, hv1, hv2, hv3, hv4, hv5⟩ := srcC_vals hg hsrc h2
    obtain ⟨xs, hown, hr, hsl⟩ := hg.ent _ hu.mem
    have hl := hown.1
    have hms : ∀ y ∈ m.take c, y.length = sz := fun y hy => hv3 y (List.mem_of_mem_take hy)
    have hcm : c ≤ m.length := by omega
    have hmc : (m.take c).length = c := by rw [List.length_take]; omega
    have hvc : (vs.take (c * sz)).length = c * sz := by
      have : c * sz ≤ m.length * sz := Nat.mul_le_mul_right _ hcm
      rw [List.length_take]; omega
    have hvr : VRels M (m.take c).flatten (vs.take (c * sz)) := by rw [flatten_take_sz c hv3]; exact hv1.take _
    have hone' : (m.take c).flatten.all AV.one = true := by
      rw [List.all_eq_true]
      intro y hy
      obtain ⟨q, hq, hy⟩ := List.mem_flatten.1 hy
      exact List.all_eq_true.1 (hone q hq) y hy
    have hvo := one_of_rels hvr hone'
    by_cases hc0 : c = 0
    · subst hc0
      have e0 : over L lo (m.take 0) = L := by unfold over; simp
      rw [e0] at hu
      refine ⟨M, .int .i64 0, w, .int .i64 0, σ1, Mem.le_refl M, hg.upd hu rfl rfl rfl (fun _ _ _ => rfl) (hg.ent _ hu.mem) (.inl rfl), by simp [VRel], by exact .mk, .inl ?_⟩
      have hmin : Nat.min m.length (hi - lo) = 0 := hc.symm
      have hld : ∀ (q : Addr), (loadCells q 0).run P w = .ok #[] w := fun q => by simpa using run_loadCells_list (P := P) w q [] (by simp)
      have hdv : ∃ da dc, subS sz v lo hi = .slice da (hi - lo) dc := by
        rcases hown.2 with ⟨rfl, _⟩ | ⟨g, cap, cur, rfl, _⟩ <;> exact ⟨_, _, rfl⟩
      obtain ⟨da, dc, hdv⟩ := hdv
      rw [hdv] at h1
      have key : (Builtin.copy_ #[t, t'] ty #[.slice da (hi - lo) dc, .slice sa m.length scap]).run P w = .ok (goInt 0) w := by
        cases da <;> cases sa <;> simp [Builtin.copy_, run_underlying hue, Builtin.lenOf, Builtin.firstCells, sizeOf, typeInfo, hinf, hmin, storeCells, hld]
      simp only [execOp, resolve, invoke, builtin, Sem.run_bind, Sem.run_pure, Result.andThen_ok, List.map_toArray, List.map_cons, List.map_nil, h1, hsv, key]
      rfl
    · rcases hown.2 with ⟨rfl, hn0⟩ | ⟨g, cap, cur, rfl, hbg, hgg, hnc, hcmx, hcs, htk⟩
      · omega
      · cases sa with
        | none => have := hv4 rfl; subst this; simp at hcm; omega
        | some ad =>
          have hcap : ¬ cap = lo := by omega
          have hda : (⟨g, 0, none⟩ : Addr).add (lo * sz) = ⟨g, lo * sz, none⟩ := by rw [Addr.add_lit]; simp
          have hd1 : subS sz (.slice (some ⟨g, 0, none⟩) L.length cap) lo hi = .slice (some ⟨g, lo * sz, none⟩) (hi - lo) (cap - lo) := by
            simp [subS, hcap, hda]
          rw [hd1] at h1
          have hlc : lo * sz + c * sz ≤ L.length * sz := by rw [← Nat.add_mul]; exact Nat.mul_le_mul_right _ (by omega)
          have hcc : L.length * sz ≤ cap * sz := Nat.mul_le_mul_right _ hnc
          have hld := run_loadCells_list (P := P) w ad (vs.take (c * sz)) (fun j u hj => hv5 ad rfl j u (by
            rw [List.getElem?_take] at hj
            split at hj
            · exact hj
            · cases hj))
          have hst := run_storeCells_at P g (lo * sz) e (vs.take (c * sz)) 0 cur w hgg (by rw [hvc, hcs]; omega) (fun u hu => hvo u hu)
          rw [hvc] at hld hst
          simp only [Nat.add_zero] at hst
          have hmin : Nat.min m.length (hi - lo) = c := hc.symm
          have key : (Builtin.copy_ #[t, t'] ty #[.slice (some ⟨g, lo * sz, none⟩) (hi - lo) (cap - lo), .slice (some ad) m.length scap]).run P w = .ok (goInt c) (w.setRow g (cur.toList.take (lo * sz) ++ vs.take (c * sz) ++ cur.toList.drop (lo * sz + c * sz)).toArray) := by
            simp [Builtin.copy_, run_underlying hue, Builtin.lenOf, Builtin.firstCells, sizeOf, typeInfo, hinf, hmin, hsz, hld, hst]
          have hcsz : (cur.toList.take (lo * sz) ++ vs.take (c * sz) ++ cur.toList.drop (lo * sz + c * sz)).toArray.size = cap * sz := by
            simp only [List.size_toArray, List.length_append, List.length_take, List.length_drop, Array.length_toList, hcs]
            rw [List.length_take] at hvc
            omega
          have hrow : (Ent.row (.slice (some ⟨g, 0, none⟩) L.length cap) e sz (over L lo (m.take c))).at M (w.setRow g (cur.toList.take (lo * sz) ++ vs.take (c * sz) ++ cur.toList.drop (lo * sz + c * sz)).toArray) := by
            refine ⟨over xs (lo * sz) (vs.take (c * sz)), ⟨?_, .inr ⟨g, cap, _, ?_, hbg, setRow_heap w g cur _ e _ hgg, ?_, hcmx, hcsz, ?_⟩⟩, ?_, ?_⟩
            · rw [over_len (by rw [hvc, hl]; exact hlc), over_len (by rw [hmc]; omega)]; exact hl
            · rw [over_len (by rw [hmc]; omega)]
            · rw [over_len (by rw [hmc]; omega)]; exact hnc
            · rw [over_len (by rw [hmc]; omega), ← htk]
              unfold over
              rw [hvc]
              apply List.ext_getElem?
              intro j
              simp only [List.getElem?_take, List.getElem?_append, List.getElem?_drop, List.length_append, List.length_take, List.length_drop, Array.length_toList, hcs]
              have hvs : min (c * sz) vs.length = c * sz := by rw [List.length_take] at hvc; exact hvc
              rw [hvs]
              have e1 : min (lo * sz) (cap * sz) = lo * sz := by omega
              have e2 : min (lo * sz) (min (L.length * sz) (cap * sz)) = lo * sz := by omega
              rw [e1, e2]
              by_cases hj : j < L.length * sz
              · rw [if_pos hj]
                by_cases hj1 : j < lo * sz + c * sz
                · rw [if_pos hj1, if_pos hj1]
                  by_cases hj2 : j < lo * sz
                  · rw [if_pos hj2, if_pos hj2, if_pos hj2, if_pos hj2, if_pos hj]
                  · rw [if_neg hj2, if_neg hj2]
                · rw [if_neg hj1, if_neg hj1, if_pos (by omega)]
              · rw [if_neg hj, if_neg (by omega), if_neg (by omega)]
            · rw [over_flat hsl hms]
              unfold over
              rw [flatten_size hms, hmc, hvc]
              exact ((hr.take _).append hvr).append (hr.drop _)
            · intro y hy
              unfold over at hy
              rcases List.mem_append.1 hy with hy | hy
              · rcases List.mem_append.1 hy with hy | hy
                · exact hsl y (List.mem_of_mem_take hy)
                · exact hms y hy
              · exact hsl y (List.mem_of_mem_drop hy)
          refine ⟨M, .int .i64 c, w.setRow g (cur.toList.take (lo * sz) ++ vs.take (c * sz) ++ cur.toList.drop (lo * sz + c * sz)).toArray, .int .i64 c, σ1, Mem.le_refl M, hg.upd hu rfl rfl rfl (fun k hk hne => ?_) hrow (.inl rfl), by simp [VRel], by exact .mk, .inl ?_⟩
          · exact setRow_other w g k _ (fun e => hne (by simp [Ent.block, Value.ownBlock, e]))
          · simp only [execOp, resolve, invoke, builtin, Sem.run_bind, Sem.run_pure, Result.andThen_ok, List.map_toArray, List.map_cons, List.map_nil, h1, hsv, key]
            rfl
end
end Go.Proofs.Ytobcnochlkdpaaa
