/- What is proved: for all districts, registers, deeds, hours and orders, the law TopRefused of the given program returns true: a timetable is made or refused, with its reason, and what becomes known later changes neither. Conditions: none beyond the given row's own. -/
import Derived.Test.YtaoaafdommlhcaaGreatHA45
import Derived.Test.YtaoaafdommlhcaaGreatChecked
import Derived.Test.YtaoaafdommlhcaaGreatRows
open Go.Proofs.Tryz
namespace Go.Proofs.YtaoaafdommlhcaaGreat
set_option linter.unusedSimpArgs false
set_option linter.unusedVariables false
open Go.ChangeShapes Go.WideShapes Go.ChangeAt Go.RowKit Go.Deep
theorem law_c(ls:List (List AV))(h:ls.length=7)(hf: ∀(i:Nat) s l,[disS,.slice dedS,dedS,iS,iS,iS,.slice ordS][i]?=some s→ls[i]?=some l→Fits s l):SCall prog 3 (List.zipWith argAV [disS,.slice dedS,dedS,iS,iS,iS,.slice ordS] ls) [] (fun r _=>r=.bool true):=by
 match ls,h with
 |[a0,a1,a2,a3,a4,a5,a6],_=>
  obtain⟨d,rfl,k1,k2,k3,k4,k5⟩:=fits_dis (hf 0 _ a0 rfl rfl)
  obtain⟨l,rfl,k6⟩:=fits_deds (hf 1 _ a1 rfl rfl)
  obtain⟨x,rfl⟩:=fits_ded (hf 2 _ a2 rfl rfl)
  obtain⟨m,rfl,_⟩:=fits_i64 (hf 3 _ a3 rfl rfl)
  obtain⟨n,rfl,_⟩:=fits_i64 (hf 4 _ a4 rfl rfl)
  obtain⟨k,rfl,_⟩:=fits_i64 (hf 5 _ a5 rfl rfl)
  obtain⟨o,rfl⟩:=fits_ords (hf 6 _ a6 rfl rfl)
  exact(refused_c d l x m n k o ⟨⟨k1,k2,k3,k4,k5⟩,k6⟩ []).mono (by rintro _ _ ⟨⟩;rfl)
theorem own:ownKnob prog.godebug=none:=by kernel_rfl
theorem laid:laidOutB prog=true:=by kernel_rfl
theorem fact1:(Rows.topRefusedRow.inPlace==prog.inPlace 3)=true:=by kernel_rfl
theorem fact2:(Rows.topRefusedRow.unfollowed==prog.unfollowed 3)=true:=by kernel_rfl
theorem fact3:(Rows.topRefusedRow.recurses==prog.recurses 3)=true:=by kernel_rfl
theorem fact4:(Rows.topRefusedRow.named==prog.varsNamed 3)=true:=by kernel_rfl
theorem fact5:mapsRowed prog=true:=by kernel_rfl
theorem facts:joinedFacts prog 3 f3 Rows.topRefusedSpec Rows.topRefusedRow=true:=by
 unfold joinedFacts
 rw[laid,fact1,fact2,fact3,fact4,fact5]
 kernel_rfl
set_option maxRecDepth 100000 in
theorem lifted(os:Os)(started:os.Started)(H:Type)(enc:TypeId×Value→H):
  ReturnsInHanded {} Tryz.checked os 3 .any (Rows.topRefusedSpec.pre6 enc prog f3 Rows.topRefusedRow.domain false) (Rows.topRefusedSpec.post enc prog f3 false true false false):=by
 refine returnsInHanded_of_change (C:=Tryz.checked) own started (by kernel_rfl) func3
  (ChangeSpec.witness6 (enc:=enc) (C:=Tryz.checked) false ⟨#[],#[.agg #[.string {data:=#[]},.int .i64 0,.int .i64 0,.int .i64 0,.slice none 0 0,.slice none 0 0,.slice none 0 0,.slice none 0 0,.slice none 0 0,.slice none 0 0],.slice none 0 0,.agg #[.int .i64 0,.int .i64 0,.int .i64 0,.int .i64 0,.int .i64 0,.slice none 0 0,.int .i64 0,.int .i64 0,.int .i64 0],.int .i64 0,.int .i64 0,.int .i64 0,.slice none 0 0],[]⟩ 8 (by kernel_rfl) (by kernel_rfl) (by kernel_rfl) (by kernel_rfl)) ?_
 intro W base args ds gs before hval hW _ _
 exact law_calls (ss:=[disS,.slice dedS,dedS,iS,iS,iS,.slice ordS]) laid (by kernel_rfl) rfl (by kernel_rfl) rfl (fun ds h=>by match ds,h with|[_,_,_,_,_,_,_],_=>rfl) law_c hval hW
theorem topRefused_holds:Rows.TopRefusedSaid:=
 OpenClaim.holds_of_wide 3 f3 rfl rfl rfl rfl rfl rfl rfl ⟨rfl,rfl,rfl,rfl,rfl⟩ rfl rfl rfl rfl rfl (by kernel_rfl) func3 facts
  (of_decide_eq_true (by kernel_rfl)) (by unfold Func.isWrapper;first|(rw[if_pos (by decide+kernel)];kernel_rfl)|(rw[if_neg (by decide+kernel)];exact⟨rfl,rfl⟩))
  (fun os started H enc _=>lifted os started H enc)
end Go.Proofs.YtaoaafdommlhcaaGreat
