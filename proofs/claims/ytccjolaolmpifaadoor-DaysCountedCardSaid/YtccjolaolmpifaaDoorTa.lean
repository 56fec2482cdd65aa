/- The tie of a law whose row lists tables. -/
import Derived.Test.YtccjolaolmpifaaDoorSs
import Derived.Test.YtccjolaolmpifaaDoorSt
import Derived.Lib.LaidTab
namespace Go.Proofs.YtccjolaolmpifaaDoor
set_option linter.unusedSimpArgs false
set_option linter.unusedVariables false
open Go.ChangeShapes Go.WideShapes Go.ChangeAt Go.RowKit Go.Deep
theorem glob_of_tab {P : Program} {W : World} {name : String} {zs : List Int} {g : Nat} (h : Lib.TabIs P W name .i64 zs) (hg : P.globalNamed name = some g) : CRel (hp W) g 0 (zs.map (AV.int .i64)) := by
  refine CRel.of_cells (vs := zs.map (Value.int .i64)) (VRels.of_get (by simp) fun i x v h1 h2 => ?_) fun j v hj => ?_
  · rw [List.getElem?_map] at h1 h2
    cases hz : zs[i]? with
    | none => rw [hz] at h1; cases h1
    | some z => rw [hz] at h1 h2; cases h1; cases h2; simp [VRel]
  · rw [List.getElem?_map] at hj
    cases hz : zs[j]? with
    | none => rw [hz] at hj; cases hj
    | some z =>
      rw [hz] at hj; cases hj
      have hl := (List.getElem?_eq_some_iff.1 hz).1
      have hc := h.cell hg j hl
      rw [Nat.zero_add]
      refine cell_hp ?_
      rw [hc]
      simp [List.getD, hz]
section
variable {P : Program} {H : Type} {enc : TypeId × Value → H}
theorem law_callsG {f : Func} {fn : FuncId} {s : ChangeSpec} {ss : List Sh} (gs0 : List (Nat × List AV)) (hl : laidOutB P = true) (hss : shsB P ss f.params.toList = true) {tb : TypeId} (hrt : f.resultTypes = #[tb]) (htb : P.underlying tb = some .bool)
    (hvs : s.vars = []) (hfn : ∀ ds : List (DataW H), ds.length = f.params.size → s.fn H ds = { results := [.lit (.bool true)], args := ds })
    (hc : ∀ ls : List (List AV), ls.length = ss.length → (∀ (i : Nat) s l, ss[i]? = some s → ls[i]? = some l → Fits s l) → SCall P fn (List.zipWith argAV ss ls) (gs0.map fun x => .glob x.1 x.2) (fun r _ => r = .bool true))
    {W : World} {base : Nat} {args : Array Value} {ds gs : List (DataW H)} {before : List MemPlace} (hG : ∀ x ∈ gs0, CRel (hp W) x.1 0 x.2)
    (hval : ∀ (j : Nat) t v, f.params[j]? = some t → args[j]? = some v → Value.okWide P W .any base t v)
    (hW : DataW.Whole enc P f.params.toList s.vars false W args.toList ds gs before) :
    Calls P fn args W fun e W' => ∃ v, e = .returned v ∧ s.post enc P f false true false false W args v W' := by
  obtain ⟨hsl, hrow, hsh⟩ := shsB_all hss
  have hW' := hW
  obtain ⟨p, q, hA, hV, rfl, hfz, hnd⟩ := hW
  obtain ⟨ls, h1, h2, h3⟩ := args_fit hsl hsh (fun j t v a b => hval j t v (by simpa using a) (by simpa using b)) hA
  have h0 := Good.start W
  have hgood : Good (fx0 W) (hp W) (gs0.map fun x => Ent.glob x.1 x.2) W := by
    refine ⟨h0.os, h0.tape, h0.output, h0.mem, h0.frm, h0.dis, fun e he => ?_, fun e he b hb => ?_, ?_⟩
    · obtain ⟨x, hx, rfl⟩ := List.mem_map.1 he
      exact hG x hx
    · obtain ⟨x, hx, rfl⟩ := List.mem_map.1 he
      cases hb
    · have : (gs0.map fun x => Ent.glob x.1 x.2).filterMap Ent.block = [] := by
        rw [List.filterMap_eq_nil_iff]
        intro e he
        obtain ⟨x, hx, rfl⟩ := List.mem_map.1 he
        rfl
      rw [this]; exact List.nodup_nil
  refine ((hc ls h1 h2).run (fx0 W) (hp W) W args hgood h3).mono ?_
  rintro e W' ⟨M', σ', r, v, hm, hg, hv, rfl, rfl⟩
  simp only [VRel] at hv
  subst hv
  exact ⟨_, rfl, law_post hl hrow hrt htb hvs hfn hW' ((hg.sub (List.nil_sublist _)).below hm)⟩
end
end Go.Proofs.YtccjolaolmpifaaDoor
