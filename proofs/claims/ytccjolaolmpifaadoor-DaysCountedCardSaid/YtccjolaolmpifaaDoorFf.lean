/- What is proved: for all lists of spans and indices the law DaysCounted of the given program returns true: how many days sets have, and which one has which index. Conditions: the table acequia/days.lengths reads as the program's text lays it (the card ties it). -/
import Derived.Test.YtccjolaolmpifaaDoorDr
import Derived.Test.YtccjolaolmpifaaDoorGc
import Derived.Test.YtccjolaolmpifaaDoorTie
import Derived.Test.YtccjolaolmpifaaDoorCards
namespace Go.Proofs.YtccjolaolmpifaaDoor
set_option linter.unusedSimpArgs false
set_option linter.unusedVariables false
open Go.ChangeShapes Go.WideShapes Go.ChangeAt Go.RowKit Go.Deep
theorem law_c (ls : List (List AV)) (h : ls.length = 3) (hf : ∀ (i : Nat) s l, [Sh.slice spS, Sh.slice spS, Sh.int .i64][i]? = some s → ls[i]? = some l → Fits s l) : SCall Tryd.prog 8 (List.zipWith argAV [Sh.slice spS, Sh.slice spS, Sh.int .i64] ls) [.glob 0 lensV] (fun r _ => r = .bool true) := by
  match ls, h with
  | [a, b, c], _ =>
    obtain ⟨x, rfl⟩ := fits_sps (hf 0 _ a rfl rfl)
    obtain ⟨y, rfl⟩ := fits_sps (hf 1 _ b rfl rfl)
    obtain ⟨n, rfl, hn⟩ := fits_i64 (hf 2 _ c rfl rfl)
    exact (daysCounted_c sane_c x y n hn.2 _ (by simp)).mono (by rintro _ _ ⟨⟩; rfl)
set_option maxRecDepth 100000 in
theorem lifted (os : Os) (started : os.Started) (H : Type) (enc : TypeId × Value → H) :
    ReturnsInHanded {} Tryd.checked os 8 .any (fun w args => (Rows.daysCountedSpec.pre enc Tryd.prog Tryd.f8 Rows.daysCountedRow.domain false w args ∧ laidMetH Tryd.prog laidL w) ∧ sizedMet enc Tryd.prog Tryd.f8 (OpenSpec.ofChange Rows.daysCountedSpec) false w args) (Rows.daysCountedSpec.post enc Tryd.prog Tryd.f8 false true false false) := by
  refine returnsInHanded_of_change_and (C := Tryd.checked) (X := fun w _ => laidMetH Tryd.prog laidL w) (fun _ _ _ hh h => h.of_heap hh) own started (by kernel_rfl) Tryd.func8
    (ChangeSpec.witness_at (enc := enc) (C := Tryd.checked) (os := os) (X := fun w _ => laidMetH Tryd.prog laidL w) false (laidWorld os) #[.slice none 0 0, .slice none 0 0, .int .i64 0] 8 rfl (by kernel_rfl) (by kernel_rfl) (by kernel_rfl) (by kernel_rfl) (by kernel_rfl) (laidWorld_met os _)) ?_
  intro W base args ds gs before hval hW _ _ hL _
  exact law_callsG (ss := [Sh.slice spS, Sh.slice spS, Sh.int .i64]) [(0, lensV)] laid (by kernel_rfl) rfl (by kernel_rfl) rfl (fun ds h => by match ds, h with | [_, _, _], _ => rfl) law_c (fun x hx => by rw [List.mem_singleton] at hx; subst hx; exact lens_of_laid hL) hval hW
theorem row_holds : Rows.DaysCountedSaid :=
  OpenClaim.holds_of_wide 8 Tryd.f8 rfl rfl rfl rfl rfl rfl rfl ⟨rfl, rfl, rfl, rfl, rfl⟩ rfl rfl rfl rfl rfl (by kernel_rfl) Tryd.func8 (by kernel_rfl)
    (of_decide_eq_true (by kernel_rfl)) (by unfold Func.isWrapper; first | (rw [if_pos (by decide +kernel)]; kernel_rfl) | (rw [if_neg (by decide +kernel)]; exact ⟨rfl, rfl⟩))
    (fun os started H enc _ => lifted os started H enc)
theorem daysCounted_holds : Rows.DaysCountedCardSaid :=
  Claim7.holds_tied_plain_at .later [] [.widerDeep] true (true, "bb40202078d74eacbee9148e36d4b7fcb598466d0ed10145c32257aeef5ce287") false row_holds (fun _ h => by cases h) (by kernel_rfl) (fun _ h => by cases h) daysCounted_row_tie rfl ⟨rfl, rfl⟩ (by kernel_rfl) rfl
    (fun f fn hf hfn => by
      obtain rfl : f = 8 := (Option.some.inj ((show Tryd.prog.funcNamed "acequia/acequialaw14.DaysCounted" = some 8 by kernel_rfl).symm.trans hf)).symm
      obtain rfl : fn = Tryd.f8 := (Option.some.inj (Tryd.func8.symm.trans hfn)).symm
      have hall : (Tryd.f8.params.toList.all fun t => !Tryd.prog.wantsStandIn t) = true := by kernel_rfl
      refine ⟨by kernel_rfl, fun j t ht => ?_⟩
      have h0 := List.all_eq_true.1 hall t (List.mem_of_getElem? (i := j) (by simpa using ht))
      have h1 : Tryd.prog.wantsStandIn t = false := by simpa using h0
      exact h1)
    (by kernel_rfl)
end Go.Proofs.YtccjolaolmpifaaDoor
