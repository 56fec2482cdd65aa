/- Parts of the proof that belong together: Pe Pf Pg Ps. -/
import Derived.Test.YtaoaafdommlhcaaGreatHA07
import Derived.Test.YtaoaafdommlhcaaGreatHA09
import Derived.Test.YtaoaafdommlhcaaGreatHA13
import Derived.Test.YtaoaafdommlhcaaGreatHA17
import Derived.Test.YtaoaafdommlhcaaGreatHA18
import Derived.Test.YtaoaafdommlhcaaGreatHA26
import Derived.Test.YtaoaafdommlhcaaGreatHA38
import Derived.Test.YtaoaafdommlhcaaGreatHA42
import Derived.Test.YtaoaafdommlhcaaGreatHA44
set_option maxRecDepth 10000
set_option maxHeartbeats 32000000
set_option linter.unusedSimpArgs false
set_option linter.unusedVariables false
set_option autoImplicit false
open Go.Proofs.Tryz
namespace Go.Proofs.YtaoaafdommlhcaaGreat
open Go.Shelf Go.Sort Go.RowKit Go.WideMaps
theorem clmCheck_b(d:Dis)(hd:yZ d≠0)(C:List Clm)(σ:List Ent):SCall prog 81 [disV d,clms C] σ (Is (.int .i64 (yZ d)) σ):=by
 refine zZ func81 rfl (by simp) ?_
 have cd:=check_c d
 generalize yZ d=e at cd hd ⊢
 repeat' first|((first|(apply yQ;exact zD;rfl;rfl)|(apply zwX;exact zD;rfl;rfl;intro σ' hl));refine zL ?_;exact cd _)|(refine xV ?_;and_intros<;>first|exact nl|intros)|(refine yV ?_ ?_<;>(intro z;cases z with|_ h)<;>intro hp)|exact nl|cases ‹BV _ _›|exact wG|fail
 all_goals
  refine zS (σ3:=σ) .nil zG zJ ?_
  exact zY .mk
theorem asked_b(d:Dis)(hd:yZ d≠0)(C:List Clm)(σ:List Ent):SCall prog 61 [disV d,clms C] σ (Is (.tup [ords [],.int .i64 (yZ d)]) σ):=by
 refine zZ func61 rfl (by simp) ?_
 have c1:=fun σ=>clmCheck_b d hd C σ
 generalize yZ d=e at c1 hd ⊢
 repeat' first|(apply yQ;exact zD;rfl;rfl;refine zL ?_;exact c1 _)|(refine xV ?_;and_intros<;>first|exact nl|intros)|(refine yV ?_ ?_<;>(intro z;cases z with|_ h)<;>intro hp)|exact nl|cases ‹BV _ _›|exact wG|fail
 all_goals
  refine zS (σ3:=σ) .nil zG zJ ?_
  exact xK (sz:=4) (.tup (.here (.same .nil)) .nil) (zY .mk)
theorem solve_b(d:Dis)(hd:yZ d≠0)(C:List Clm)(σ:List Ent):
  SCall prog 21 [disV d,clms C] σ (Is (.tup [ords [],fltV fZ,.int .i64 (yZ d)]) σ):=by
 refine zZ func21 rfl (by simp) ?_
 have ca:=fun σ=>asked_b d hd C σ
 generalize yZ d=e at hd ca ⊢
 repeat' first|((first|(apply yQ;exact zD;rfl;rfl)|(apply zwX;exact zD;rfl;rfl;intro σ' hl));refine zL ?_;exact ca _)|(refine xV ?_;and_intros<;>first|exact nl|intros)|(refine yV ?_ ?_<;>(intro z;cases z with|_ h)<;>intro hp)|exact nl|cases ‹BV _ _›|exact wG|fail
 rename Nat=>b6;revert b6;rename Nat=>b5;revert b5;rename Nat=>b4;revert b4;rename Nat=>bd;revert bd
 intro bd b4 b5 b6
 refine yB (fun x=>x=.cells b5 (fltC fZ) 73∨x=.cells b6 [.int .i64 e] 40) [2,3] 4 rfl (by kernel_rfl) rfl ?_
 simp only[List.take_succ_cons,List.take_zero,List.drop_succ_cons,List.drop_zero]
 repeat' first|(refine xV ?_;and_intros<;>first|exact nl|intros)|refine zT ?_|(refine yV ?_ ?_<;>(intro z;cases z with|_ h)<;>intro hp)|exact nl|cases ‹BV _ _›|exact wG|fail
 all_goals
  refine zS (σ3:=σ) .nil zG zJ ?_
  exact xK (sz:=4) (.tup (.here (.same (.same .nil))) .nil) (zY .mk)
theorem make_b(d:Dis)(hd:yZ d≠0)(C:List Clm)(σ:List Ent):
  SCall prog 7 [disV d,clms C] σ (Is (.tup [ords [],.bool false,.int .i64 (yZ d)]) σ):=by
 refine zZ func7 rfl (by simp) ?_
 have cs:=fun σ=>solve_b d hd C σ
 generalize yZ d=e at hd cs ⊢
 repeat' first|((first|(apply yQ;exact zD;rfl;rfl)|(apply zwX;exact zD;rfl;rfl;intro σ' hl));refine zL ?_;exact cs _)|(refine xV ?_;and_intros<;>first|exact nl|intros)|(refine yV ?_ ?_<;>(intro z;cases z with|_ h)<;>intro hp)|exact nl|cases ‹BV _ _›|exact wG|fail
 all_goals
  refine zS (σ3:=σ) .nil zG zJ ?_
  exact zY .mk
theorem make_any(d:Dis): ∃(L:List Ord') (b:Bool) (e:Int),∀σ,SCall prog 7 [disV d,clms []] σ (Is (.tup [ords L,.bool b,.int .i64 e]) σ):=by
 by_cases h:yZ d=0
 ·exact⟨_,_,_,fun σ=>make_c d h [] ⟨by simp,fun _ h=>(by cases h),List.Pairwise.nil⟩ σ⟩
 ·exact⟨_,_,_,fun σ=>make_b d h [] σ⟩
open Go.WideMaps
theorem count_ins{l:List Ded}{x:Ded}{known:Int}(hx:known<x.known)(hour:Int):vL (insF l x) hour known=vL l hour known:=
 count_later hx (List.takeWhile_append_dropWhile).symm
theorem add_ok{d:Dis}{l:List Ded}{x:Ded}(h:(addL d l x).2=0):(addL d l x).1=insF l x∧wF xL d l=0∧wF xL d (insF l x)=0:=by
 unfold addL at h ⊢
 by_cases h1:wF xL d l≠0
 ·rw[if_pos h1]at h;exact absurd h h1
 rw[if_neg h1]at h ⊢
 by_cases h2:metF l x=true
 ·rw[if_pos h2]at h;cases h
 rw[if_neg h2]at h ⊢
 by_cases h3:wF xL d (insF l x)≠0
 ·rw[if_pos h3]at h;exact absurd h h3
 rw[if_neg h3]at h ⊢
 exact⟨rfl,by omega,by omega⟩
theorem later_same{d:Dis}{l:List Ded}{x:Ded}{frm to known:Int}(h:(addL d l x).2=0)(hx:known<x.known):
  (addL d l x).1.length≤9223372036854775807∧ofE d (addL d l x).1 frm to known=ofE d l frm to known∧kK d (addL d l x).1 frm to known=kK d l frm to known∧tQ d (addL d l x).1 frm to known=tQ d l frm to known∧pB d (addL d l x).1 frm to known=pB d l frm to known:=by
 obtain⟨e,h1,h2⟩:=add_ok h
 rw[e]
 obtain⟨k1,k2⟩:=of_later (d:=d) (frm:=frm) (to:=to) (fun hour=>count_ins hx hour) h1 h2
 have k3:tQ d (insF l x) frm to known=tQ d l frm to known:=by unfold tQ;rw[k1,k2]
 have k4:pB d (insF l x) frm to known=pB d l frm to known:=by unfold pB;rw[k2,k3]
 have:=(kU h2).2.1
 exact⟨by omega,k1,k2,k3,k4⟩
theorem small_of{d:Dis}{C:List Clm}(hd:yZ d=0)(hf:FewP d)(h:(yH d C).2.2=0):pN d C=0∧d.hours≤30∧d.F.length≤8:=by
 obtain⟨h1,h2⟩:=solve_wide h
 obtain⟨h3,h4⟩:=few_bound hd h2 hf.1 hf.2
 exact⟨h1,h3,h4⟩
theorem solve_len(d:Dis)(C:List Clm):(yH d C).1.length≤4096:=by
 unfold yH
 split
 ·simp
 split
 ·simp
 split
 ·simp
 split
 ·dsimp only
  rw[(uY _).length_eq]
  omega
 ·simp
theorem why_small{d:Dis}{l:List Ded}{frm to known:Int}(h0:tQ d l frm to known=0)(hH:d.hours≤30)(hF:d.F.length≤8):(pB d l frm to known).1.parcels.length≤1024∧(pB d l frm to known).1.rights.length≤10:=by
 cases hm:xU d (kK d l frm to known) with
 |true=>rw[why_off h0 hm];exact⟨by simp[rf0],by simp[rf0]⟩
 |false=>
  obtain⟨k1,k2⟩:=first_ok hm
  rw[why_on h0 hm]
  have h1:=(own_ref h0 hm hH hF _ k2).len
  have h2:=(setsL_sub k1).length_le
  have h3:=(open_zero h0).2.2
  exact⟨h1,Nat.le_trans h2 h3⟩
open Go.Shelf Go.Sort Go.RowKit Go.WideMaps
theorem refused_c(d:Dis)(l:List Ded)(more:Ded)(frm to known:Int)(other:List Ord')(hL:LensOk d l)(σ:List Ent):
  SCall prog 3 [disV d,deds l,dedV more,.int .i64 frm,.int .i64 to,.int .i64 known,ords other] σ (Is (.bool true) σ):=by
 refine zZ func3 rfl (by simp) ?_
 have cf:=fun σ=>few29_r d l hL frm to known σ
 repeat' first|(show EX _ _ (Code.seq (Code.region 3 _ _) _) _ _;refine Stuck.out ?_)|(refine vW ?_;intros)|(apply yQ;exact zD;rfl;rfl;refine zL ?_;exact awake_c _)|(refine yV ?_ ?_<;>(intro z;cases z with|_ h)<;>intro hp)|exact nl|cases ‹BV _ _›|exact wG|fail
 all_goals try refine Stuck.mk ?_
 rename Nat=>b9;revert b9;rename Nat=>b7;revert b7
 intro b7 b9
 refine yS (s':=⟨[(1,deds l),(3,.int .i64 frm),(4,.int .i64 to),(5,.int .i64 known),(6,ords other),(7,.ptr b7 0),(9,.ptr b9 0)],.cells b9 (dedC more) 35::.cells b7 (disC d) 31::σ,[],f3.ntmps⟩) (St.le_of zC yY) ?_
 have hom:(other.map ordC).length=other.length:=List.length_map _
 have hpm:(more.parts.map prtC).length=more.parts.length:=List.length_map _
 by_cases ho:(300:Int)<other.length
 ·repeat' first|(refine xD (.call {callee:=.value (.func 5),args:=_,argTypes:=_}) ?_;refine zK rfl rfl rfl (zQ rfl rfl (zX (by kernel_rfl)) (cf _)) ?_;rintro _ _ ⟨(_|_),rfl,rfl,hb⟩)|(refine yX ?_;intros)|(refine yV ?_ ?_<;>(intro z;cases z with|_ h)<;>intro hp)|exact nl|cases ‹BV _ _›|exact wG|fail
  all_goals
   refine zS (σ3:=σ) .nil zG zJ ?_
   exact zY .mk
 by_cases hp:(16:Int)<more.parts.length
 ·repeat' first|(refine xD (.call {callee:=.value (.func 5),args:=_,argTypes:=_}) ?_;refine zK rfl rfl rfl (zQ rfl rfl (zX (by kernel_rfl)) (cf _)) ?_;rintro _ _ ⟨(_|_),rfl,rfl,hb⟩)|(refine yX ?_;intros)|(refine yV ?_ ?_<;>(intro z;cases z with|_ h)<;>intro hp)|exact nl|cases ‹BV _ _›|exact wG|fail
  all_goals
   refine zS (σ3:=σ) .nil zG zJ ?_
   exact zY .mk
 repeat' first|(refine xD (.call {callee:=.value (.func 5),args:=_,argTypes:=_}) ?_;refine zK rfl rfl rfl (zQ rfl rfl (zX (by kernel_rfl)) (cf _)) ?_;rintro _ _ ⟨(_|_),rfl,rfl,hb⟩)|(show EX _ _ (Code.seq (Code.region 5 _ _) _) _ _;refine Stuck.out ?_)|(refine vW ?_;intros)|(refine yV ?_ ?_<;>(intro z;cases z with|_ h)<;>intro hp)|exact nl|cases ‹BV _ _›|exact wG|fail
 all_goals try refine Stuck.mk ?_
 ·refine zS (σ3:=σ) .nil zG zJ ?_
  exact zY .mk
 refine yS (s':=⟨[(1,deds l),(3,.int .i64 frm),(4,.int .i64 to),(5,.int .i64 known),(6,ords other),(7,.ptr b7 0),(9,.ptr b9 0)],.cells b9 (dedC more) 35::.cells b7 (disC d) 31::σ,[],f3.ntmps⟩) (St.le_of zC yY) ?_
 have hfw:=hb rfl
 clear cf hb hom hpm
 have co: ∀σ,SCall prog 6 [disV d,deds l,.int .i64 frm,.int .i64 to,.int .i64 known] σ (Is (.tup [clms (if ofE d l frm to known=0 then kK d l frm to known else []),.int .i64 (ofE d l frm to known)]) σ):=fun σ=>of_c d l frm to known σ
 have cw: ∀σ,SCall prog 8 [disV d,deds l,.int .i64 frm,.int .i64 to,.int .i64 known] σ (Is (.tup [rfV (pB d l frm to known).1,.bool (pB d l frm to known).2.1,.int .i64 (pB d l frm to known).2.2]) σ):=fun σ=>why_c d l frm to known σ
 by_cases h0:ofE d l frm to known=0
 rotate_left
 ·have hw:pB d l frm to known=(rf0,false,ofE d l frm to known):=by
   have:tQ d l frm to known=ofE d l frm to known:=by unfold tQ;rw[if_pos h0]
   unfold pB;rw[this,if_pos h0]
  rw[if_neg h0]at co
  rw[hw]at cw
  obtain⟨L,b,e,cm⟩:=make_any d
  generalize ofE d l frm to known=e0 at h0 co cw
  clear hw hL hfw
  by_cases he:e=0
  ·repeat' first|(apply yQ;exact zD;rfl;rfl;refine zL ?_;first|exact co _|exact cm _|exact cw _)|(refine xV ?_;and_intros<;>first|exact nl|intros)|(refine yV ?_ ?_<;>(intro z;cases z with|_ h)<;>intro hp)|exact nl|cases ‹BV _ _›|exact wG|fail
   all_goals
    refine zS (σ3:=σ) .nil zG zJ ?_
    exact zY .mk
  ·repeat' first|(apply yQ;exact zD;rfl;rfl;refine zL ?_;first|exact co _|exact cm _|exact cw _)|(refine xV ?_;and_intros<;>first|exact nl|intros)|(refine yV ?_ ?_<;>(intro z;cases z with|_ h)<;>intro hp)|exact nl|cases ‹BV _ _›|exact wG|fail
   all_goals
    refine zS (σ3:=σ) .nil zG zJ ?_
    exact zY .mk
 have hd:=ofL_dis h0
 have hC:=of_ok h0
 by_cases h1:tQ d l frm to known=0
 rotate_left
 ·have hw:pB d l frm to known=(rf0,false,tQ d l frm to known):=by unfold pB;rw[if_pos h1]
  rw[hw]at cw
  rw[if_pos h0,h0]at co
  have cm:=fun σ=>make_c d hd (kK d l frm to known) hC σ
  generalize tQ d l frm to known=e0 at h1 cw
  generalize (yH d (kK d l frm to known)).2.2=e2 at cm
  clear hw hL hfw
  by_cases he:e2=0
  ·repeat' first|(apply yQ;exact zD;rfl;rfl;refine zL ?_;first|exact co _|exact cm _|exact cw _)|(refine xV ?_;and_intros<;>first|exact nl|intros)|(refine yV ?_ ?_<;>(intro z;cases z with|_ h)<;>intro hp)|exact nl|cases ‹BV _ _›|exact wG|fail
   all_goals
    refine zS (σ3:=σ) .nil zG zJ ?_
    exact zY .mk
  ·repeat' first|(apply yQ;exact zD;rfl;rfl;refine zL ?_;first|exact co _|exact cm _|exact cw _)|(refine xV ?_;and_intros<;>first|exact nl|intros)|(refine yV ?_ ?_<;>(intro z;cases z with|_ h)<;>intro hp)|exact nl|cases ‹BV _ _›|exact wG|fail
   all_goals
    refine zS (σ3:=σ) .nil zG zJ ?_
    exact zY .mk
 have h2:=(open_zero h1).2.1
 obtain⟨ha,hH,hF⟩:=small_of hd hfw h2
 have cm:=fun σ=>make_c d hd (kK d l frm to known) hC σ
 rw[if_pos h0,h0]at co
 rw[h2]at cm
 have hw2:(pB d l frm to known).2=(!xU d (kK d l frm to known),0):=by
  cases hm:xU d (kK d l frm to known) with
  |true=>rw[why_off h1 hm];rfl
  |false=>rw[why_on h1 hm];rfl
 rw[hw2]at cw
 obtain⟨C,eC⟩: ∃C,kK d l frm to known=C:=⟨_,rfl⟩
 obtain⟨L,eL⟩: ∃L,(yH d C).1=L:=⟨_,rfl⟩
 obtain⟨B,eB⟩: ∃B,xU d C=B:=⟨_,rfl⟩
 obtain⟨R,eR⟩: ∃R,(pB d l frm to known).1=R:=⟨_,rfl⟩
 rw[eC]at hC co cm cw
 rw[eL,eB]at cm
 rw[eB,eR]at cw
 have hw3:(pB d l frm to known).2=(!B,0):=by rw[hw2,eC,eB]
 clear hw2
 repeat' first|(show EX _ _ (Code.seq (Code.region 10 _ _) _) _ _;refine Stuck.out ?_)|(refine vW ?_;intros)|(apply yQ;exact zD;rfl;rfl;refine zL ?_;first|exact co _|exact cm _|exact cw _)|(refine yV ?_ ?_<;>(intro z;cases z with|_ h)<;>intro hp)|exact nl|cases ‹BV _ _›|exact wG|fail
 all_goals try refine Stuck.mk ?_
 rename Nat=>b20;revert b20
 intro b20
 refine pG (fun(_:Unit)=>⟨[(1,deds l),(3,.int .i64 frm),(4,.int .i64 to),(5,.int .i64 known),(6,ords other),(7,.ptr b7 0),(9,.ptr b9 0),(15,clms C),(17,ords L),(18,.bool B),(20,.ptr b20 0),(21,.bool (!B))],.cells b20 (rfC R) 48::.cells b9 (dedC more) 35::.cells b7 (disC d) 31::σ,[],f3.ntmps⟩) ?_ ?_
 ·cases B
  all_goals
   refine uZ ?_;and_intros<;>first|exact nl|intros
   exact⟨(),_,.refl _,(St.le_of zC zJ)⟩
 intro u
 clear u
 repeat' first|(show EX _ _ (Code.seq (Code.region 12 _ _) _) _ _;refine Stuck.out ?_)|(refine vW ?_;intros)|(refine yV ?_ ?_<;>(intro z;cases z with|_ h)<;>intro hp)|exact nl|cases ‹BV _ _›|exact wG|fail
 all_goals try refine Stuck.mk ?_
 refine pG (fun(_:Unit)=>⟨[(1,deds l),(3,.int .i64 frm),(4,.int .i64 to),(5,.int .i64 known),(7,.ptr b7 0),(9,.ptr b9 0),(17,ords L),(18,.bool B),(20,.ptr b20 0),(21,.bool (!B))],.cells b20 (rfC R) 48::.cells b9 (dedC more) 35::.cells b7 (disC d) 31::σ,[],f3.ntmps⟩) ?_ ?_
 ·cases B with
  |true=>
   have hacc:=plan_acc hd hC eB
   have hrd:=(accB_iff.1 hacc).rd
   rw[eL]at hacc hrd
   have ca:=fun σ=>accepts_c d hd C hC L σ
   rw[hacc,hrd]at ca
   obtain⟨_,hl9,_,hob,_⟩:=read_zero hrd
   have hFF:=(yC (zP hd).1).2.1
   have hsv:=plan_served hC.ok
   rw[show xA yF (xG d C)=L by rw[←eL,(make_on hd hC.ok eB).2.2.2.2]]at hsv
   have cs:=fun σ=>served_c C L hC.len hl9 (fun o ho=>by
    obtain⟨k1,k2,k3,k4,k5⟩:=ord_in (hob o ho)
    have hRR:=(yC (zP hd).1).1
    cases hb:o.outlet with
    |true=>have:=k3 hb;omega
    |false=>have:=k4 hb;omega) (fun c hc=>by
    obtain⟨_,⟨a,e1,e2⟩,k3,k4⟩:=hC.ok c hc
    omega) hsv σ
   clear hsv hob hacc hrd
   repeat' first|(apply yQ;exact zD;rfl;rfl;refine zL ?_;first|exact ca _|exact cs _)|(refine xV ?_;and_intros<;>first|exact nl|intros)|(refine yV ?_ ?_<;>(intro z;cases z with|_ h)<;>intro hp)|exact nl|cases ‹BV _ _›|exact wG|fail
   all_goals
    exact⟨(),_,.refl _,(St.le_of zC zJ)⟩
  |false=>
   have hmk:xU d (kK d l frm to known)=false:=by rw[eC];exact eB
   have eRf:R=refOf d C (jZ d C):=by rw[←eR,why_on h1 hmk,eC]
   have hmo:xU d (vZ R.rights C)=false:=by rw[eRf];exact(first_ok eB).2
   have ch: ∀σ,SCall prog 11 [disV d,deds l,.int .i64 frm,.int .i64 to,.int .i64 known,rfV R] σ (Is (.tup [.bool true,.int .i64 0]) σ):=fun σ=>by
    have h:SCall prog 11 [disV d,deds l,.int .i64 frm,.int .i64 to,.int .i64 known,rfV (pB d l frm to known).1] σ (Is (.tup [.bool true,.int .i64 0]) σ):=holdsR_c h1 hmk hH hF σ
    rw[eR]at h
    exact h
   have hoC:=ownC_ok hC R.rights
   have ca:=fun σ=>accepts_c d hd (vZ R.rights C) hoC other σ
   rw[none_acc hoC (askE_sub hC.ok (ownC_sub _ C) (by rw[←eC];exact ha)) hH hF hmo other]at ca
   have hrl:R.rights.length≤10:=by rw[←eR];exact(why_small h1 hH hF).2
   have hCl:=hC.len
   generalize readE d other=e at ca
   clear eRf hmo hoC hmk
   repeat' first|(show EX _ _ (Code.seq (Code.region 20 _ _) _) _ _;refine Stuck.out ?_)|(refine vW ?_;intros)|(apply yQ;exact zD;rfl;rfl;refine zL ?_;exact ch _)|(refine yV ?_ ?_<;>(intro z;cases z with|_ h)<;>intro hp)|exact nl|cases ‹BV _ _›|exact wG|fail
   all_goals try refine Stuck.mk ?_
   rename Nat=>bm;revert bm
   intro bm
   refine yS (s':=⟨[(1,deds l),(3,.int .i64 frm),(4,.int .i64 to),(5,.int .i64 known),(6,ords other),(7,.ptr b7 0),(9,.ptr b9 0),(15,clms C),(17,ords L),(18,.bool false),(20,.ptr b20 0),(21,.bool true),(27,.mp bm)],.imap bm (fun _=>none) 0::.cells b20 (rfC R) 48::.cells b9 (dedC more) 35::.cells b7 (disC d) 31::σ,[],f3.ntmps⟩) (St.le_of zC yY) ?_
   clear ch
   have hrm:(R.rights.map intC).length=R.rights.length:=List.length_map _
   have hcm:(C.map clmC).length=C.length:=List.length_map _
   refine uZ ?_;and_intros<;>first|exact nl|intros
   refine zU (fun(z:Nat×Nat)=>(⟨[(1,deds l),(3,.int .i64 frm),(4,.int .i64 to),(5,.int .i64 known),(6,ords other),(7,.ptr b7 0),(9,.ptr b9 0),(15,clms C),(17,ords L),(18,.bool false),(20,.ptr b20 0),(21,.bool true),(27,.mp bm),(153,ints R.rights),(154,.int .i64 R.rights.length),(155,.int .i64 (z.1:Nat))],.imap bm (boolM (R.rights.take z.1).contains) z.2::.cells b20 (rfC R) 48::.cells b9 (dedC more) 35::.cells b7 (disC d) 31::σ,[],f3.ntmps⟩:St)) (fun z=>z.1≤R.rights.length) (fun z=>R.rights.length-z.1) (0,0) (Nat.zero_le _) (St.le_of zC yY) ?_
   intro z hI
   obtain⟨k,n⟩:=z
   dsimp only at hI ⊢
   by_cases hk:k<R.rights.length
   ·obtain⟨x,hx⟩:=zH hk
    have ht:R.rights.take (k+1)=R.rights.take k++[x]:=by rw[List.take_add_one,hx];rfl
    refine uZ ?_;and_intros<;>first|exact nl|intros
    rw[←ht]
    refine⟨(k+1,_),hk,by dsimp only;omega,St.le_of zC yY⟩
   obtain rfl:k=R.rights.length:=by omega
   rw[List.take_length]
   generalize R.rights.length=k at hrm hrl
   refine xX 57 5 ?_
   refine uZ ?_;and_intros<;>first|exact nl|intros
   refine zU (fun(z:Nat×Value)=>(⟨[(1,deds l),(3,.int .i64 frm),(4,.int .i64 to),(5,.int .i64 known),(6,ords other),(7,.ptr b7 0),(9,.ptr b9 0),(17,ords L),(18,.bool false),(20,.ptr b20 0),(21,.bool true),(27,.mp bm),(30,.slv z.2),(162,clms C),(163,.int .i64 C.length),(164,.int .i64 (z.1:Nat))],.row z.2 57 5 ((vZ R.rights (C.take z.1)).map clmC)::.imap bm (boolM R.rights.contains) n::.cells b20 (rfC R) 48::.cells b9 (dedC more) 35::.cells b7 (disC d) 31::σ,[],f3.ntmps⟩:St)) (fun z=>z.1≤C.length) (fun z=>C.length-z.1) (0,nilS) (Nat.zero_le _) (St.le_of zC yY) ?_
   intro z hI
   obtain⟨j,v⟩:=z
   dsimp only at hI ⊢
   by_cases hj:j<C.length
   ·obtain⟨c,hc⟩:=zH hj
    have gc:=pT hc
    have hn1:R.rights.contains c.right=true→(vZ R.rights (C.take (j+1))).map clmC=(vZ R.rights (C.take j)).map clmC++[clmC c]:=fun h=>by
     show (List.filter (fun c=>R.rights.contains c.right) (C.take (j+1))).map clmC=_
     rw[List.take_add_one,hc]
     show (List.filter (fun c=>R.rights.contains c.right) (C.take j++[c])).map clmC=_
     rw[List.filter_append,List.map_append,List.filter_cons,if_pos h]
     rfl
    have hn0:R.rights.contains c.right=false→(vZ R.rights (C.take (j+1))).map clmC=(vZ R.rights (C.take j)).map clmC:=fun h=>by
     show (List.filter (fun c=>R.rights.contains c.right) (C.take (j+1))).map clmC=_
     rw[List.take_add_one,hc]
     show (List.filter (fun c=>R.rights.contains c.right) (C.take j++[c])).map clmC=_
     rw[List.filter_append,List.map_append,List.filter_cons,if_neg (by rw[h];exact Bool.false_ne_true)]
     exact List.append_nil _
    have hA:((vZ R.rights (C.take j)).map clmC).length≤4096:=by
     rw[List.length_map]
     have:=(ownC_sub R.rights (C.take j)).length_le
     rw[List.length_take]at this
     omega
    generalize (vZ R.rights (C.take j)).map clmC=A at hn1 hn0 hA ⊢
    clear hc
    refine uZ ?_;and_intros<;>first|exact nl|intros
    ·rename Value=>w
     exact⟨(j+1,w),hj,by dsimp only;omega,by dsimp only;rw[hn1 (by assumption)];exact(St.le_of zC zJ)⟩
    ·exact⟨(j+1,v),hj,by dsimp only;omega,by dsimp only;rw[hn0 (by assumption)];exact(St.le_of zC zJ)⟩
   obtain rfl:j=C.length:=by omega
   rw[List.take_length]
   generalize C.length=j at hcm hCl
   repeat' first|(show EX _ _ (Code.seq (Code.region 32 _ _) _) _ _;refine Stuck.out ?_)|(refine vW ?_;intros)|(refine yV ?_ ?_<;>(intro z;cases z with|_ h)<;>intro hp)|exact nl|cases ‹BV _ _›|exact wG|fail
   all_goals try refine Stuck.mk ?_
   refine ex_seal (env':=[(1,deds l),(3,.int .i64 frm),(4,.int .i64 to),(5,.int .i64 known),(6,ords other),(7,.ptr b7 0),(9,.ptr b9 0),(17,ords L),(18,.bool false),(20,.ptr b20 0),(21,.bool true),(30,clms (vZ R.rights C))]) .here (by repeat (first|exact .nil|refine .same rfl ?_|refine .here rfl ?_)) ?_
   by_cases he:e=0
   all_goals
    repeat' first|(apply yQ;exact zD;rfl;rfl;refine zL ?_;exact ca _)|(refine xV ?_;and_intros<;>first|exact nl|intros)|(refine yV ?_ ?_<;>(intro z;cases z with|_ h)<;>intro hp)|exact nl|cases ‹BV _ _›|exact wG|fail
   all_goals
    exact⟨(),_,.refl _,(St.le_of zC zJ)⟩
 intro u
 clear u
 have hLl:L.length≤4096:=by rw[←eL];exact solve_len d C
 obtain⟨hRp,hRr⟩:R.parcels.length≤1024∧R.rights.length≤10:=by rw[←eR];exact why_small h1 hH hF
 have cadd:=fun σ=>addL_c d l more σ
 have cso:=fun σ=>sameO_r L (by omega) σ
 have csr:=fun σ=>sameR_r R (by omega) (by omega) σ
 by_cases he:(addL d l more).2=0
 rotate_left
 ·generalize addL d l more=p at he cadd
  obtain⟨p1,p2⟩:=p
  dsimp only at he cadd
  clear hRp hRr hLl cso csr
  repeat' first|(apply yQ;exact zD;rfl;rfl;refine zL ?_;exact cadd _)|(refine xV ?_;and_intros<;>first|exact nl|intros)|(refine yV ?_ ?_<;>(intro z;cases z with|_ h)<;>intro hp)|exact nl|cases ‹BV _ _›|exact wG|fail
  all_goals
   refine zS (σ3:=σ) .nil zG zJ ?_
   exact zY .mk
 rw[he]at cadd
 by_cases hk:more.known≤known
 ·generalize (addL d l more).1=p1 at cadd
  clear hRp hRr hLl cso csr
  repeat' first|(apply yQ;exact zD;rfl;rfl;refine zL ?_;exact cadd _)|(refine xV ?_;and_intros<;>first|exact nl|intros)|(refine yV ?_ ?_<;>(intro z;cases z with|_ h)<;>intro hp)|exact nl|cases ‹BV _ _›|exact wG|fail
  all_goals
   refine zS (σ3:=σ) .nil zG zJ ?_
   exact zY .mk
 obtain⟨s1,s2,s3,s4,s5⟩:=later_same (frm:=frm) (to:=to) (known:=known) he (by omega)
 have cf:=fun σ=>few29_r d (addL d l more).1 ⟨hL.1,s1⟩ frm to known σ
 have co2: ∀σ,SCall prog 6 [disV d,deds (addL d l more).1,.int .i64 frm,.int .i64 to,.int .i64 known] σ (Is (.tup [clms C,.int .i64 0]) σ):=fun σ=>by
  have h:SCall prog 6 [disV d,deds (addL d l more).1,.int .i64 frm,.int .i64 to,.int .i64 known] σ (Is (.tup [clms (if ofE d (addL d l more).1 frm to known=0 then kK d (addL d l more).1 frm to known else []),.int .i64 (ofE d (addL d l more).1 frm to known)]) σ):=of_c d _ frm to known σ
  rw[s2,s3,if_pos h0,h0,eC]at h
  exact h
 have cw2: ∀σ,SCall prog 8 [disV d,deds (addL d l more).1,.int .i64 frm,.int .i64 to,.int .i64 known] σ (Is (.tup [rfV R,.bool (!B),.int .i64 0]) σ):=fun σ=>by
  have h:SCall prog 8 [disV d,deds (addL d l more).1,.int .i64 frm,.int .i64 to,.int .i64 known] σ (Is (.tup [rfV (pB d (addL d l more).1 frm to known).1,.bool (pB d (addL d l more).1 frm to known).2.1,.int .i64 (pB d (addL d l more).1 frm to known).2.2]) σ):=why_c d _ frm to known σ
  rw[s5,hw3,eR]at h
  exact h
 generalize (addL d l more).1=l2 at cadd cf co2 cw2 ⊢
 clear s1 s2 s3 s4 s5
 repeat' first|(refine xD (.call {callee:=.value (.func 5),args:=_,argTypes:=_}) ?_;refine uC rfl zbt rfl rfl (zQ rfl rfl (zX (by kernel_rfl)) (cf _)) ?_;rintro _ _ ⟨(_|_),rfl,rfl,hb2⟩)|(show EX _ _ (Code.seq (Code.region 38 _ _) _) _ _;refine Stuck.out ?_)|(refine vW ?_;intros)|(apply yQ;exact zD;rfl;rfl;refine zL ?_;exact cadd _)|(refine yV ?_ ?_<;>(intro z;cases z with|_ h)<;>intro hp)|exact nl|cases ‹BV _ _›|exact wG|fail
 all_goals try refine Stuck.mk ?_
 ·refine zS (σ3:=σ) .nil zG zJ ?_
  exact zY .mk
 refine yS (s':=⟨[(3,.int .i64 frm),(4,.int .i64 to),(5,.int .i64 known),(7,.ptr b7 0),(17,ords L),(18,.bool B),(20,.ptr b20 0),(21,.bool (!B)),(35,deds l2)],.cells b20 (rfC R) 48::.cells b7 (disC d) 31::σ,[],f3.ntmps⟩) (St.le_of zC yY) ?_
 clear cf hb2 cadd co cw
 repeat' first|(show EX _ _ (Code.seq (Code.region 41 _ _) _) _ _;refine Stuck.out ?_)|(refine vW ?_;intros)|(apply yQ;exact zD;rfl;rfl;refine zL ?_;first|exact co2 _|exact cm _|exact cw2 _)|(refine yV ?_ ?_<;>(intro z;cases z with|_ h)<;>intro hp)|exact nl|cases ‹BV _ _›|exact wG|fail
 all_goals try refine Stuck.mk ?_
 rename Nat=>b41;revert b41
 intro b41
 refine yS (s':=⟨[(17,ords L),(18,.bool B),(20,.ptr b20 0),(21,.bool (!B)),(36,.int .i64 0),(38,ords L),(39,.bool B),(40,.int .i64 0),(41,.ptr b41 0),(42,.bool (!B)),(43,.int .i64 0)],.cells b41 (rfC R) 48::.cells b20 (rfC R) 48::σ,[],f3.ntmps⟩) (St.le_of zC yY) ?_
 clear co2 cm cw2
 cases B
 all_goals
  repeat' first|(apply yQ;exact zD;rfl;rfl;refine zL ?_;first|exact cso _|exact csr _)|(refine xV ?_;and_intros<;>first|exact nl|intros)|(refine yV ?_ ?_<;>(intro z;cases z with|_ h)<;>intro hp)|exact nl|cases ‹BV _ _›|exact wG|fail
 all_goals
  refine zS (σ3:=σ) .nil zG zJ ?_
  exact zY .mk
abbrev iS:Sh:=.int .i64
def rtS:Sh:=.agg [iS,iS]
def rchS:Sh:=.agg [.str,iS,iS,iS,iS,iS,.agg [iS,iS],.agg [rtS,rtS]]
def frmS:Sh:=.agg [.str,iS,iS,iS]
def crpS:Sh:=.agg [.str,iS]
def rgtS:Sh:=.agg [.str,iS,iS,iS,iS,iS,iS,iS,iS,iS]
def dtyS:Sh:=.agg [.str,iS,iS,iS]
def wllS:Sh:=.agg [iS,iS,iS,.slice iS]
def disS:Sh:=.agg [.str,iS,.agg [iS,iS],.slice rchS,.slice frmS,.slice crpS,.slice rgtS,.slice dtyS,.slice wllS]
def prtS:Sh:=.agg [iS,rtS]
def dedS:Sh:=.agg [iS,iS,iS,iS,iS,.slice prtS,iS,iS,iS]
def ordS:Sh:=.agg [iS,iS,iS,.bool]
theorem fits_str{l:List AV}(h:Fits .str l): ∃s:ByteArray,l=[.str s]:=by
 simp only[Fits]at h
 obtain⟨s,rfl,_⟩:=h
 exact⟨s,rfl⟩
theorem fits_len{s:Sh}{sz:Nat}{α:Type}{f:α→List AV}{xs:List α}(h:Fits (.slice s) [.dl sz (xs.map f)]):xs.length≤9223372036854775807:=by
 simp only[Fits]at h
 obtain⟨ys,he,hl,_⟩:=h
 injection he with he _
 injection he with _ he
 rw[←he,List.length_map]at hl
 exact Nat.le_trans hl (by decide)
theorem yR{ss:List Sh}{l:List AV}(h:Fitss (iS::ss) l): ∃(n:Int) (r:List AV),l=.int .i64 n::r∧Fitss ss r:=by
 simp only[Fitss]at h
 obtain⟨_,r,rfl,h1,h2⟩:=h
 obtain⟨n,rfl,_⟩:=fits_i64 h1
 exact⟨n,r,rfl,h2⟩
theorem fits_nm{ss:List Sh}{l:List AV}(h:Fitss (.str::ss) l): ∃(n:ByteArray) (r:List AV),l=.str n::r∧Fitss ss r:=by
 simp only[Fitss]at h
 obtain⟨_,r,rfl,h1,h2⟩:=h
 obtain⟨n,rfl⟩:=fits_str h1
 exact⟨n,r,rfl,h2⟩
theorem fits_bo{ss:List Sh}{l:List AV}(h:Fitss (.bool::ss) l): ∃(n:Bool) (r:List AV),l=.bool n::r∧Fitss ss r:=by
 simp only[Fitss]at h
 obtain⟨_,r,rfl,h1,h2⟩:=h
 simp only[Fits]at h1
 obtain⟨n,rfl⟩:=h1
 exact⟨n,r,rfl,h2⟩
theorem uV{l:List AV}(h:Fitss [] l):l=[]:=by simpa only [Fitss]using h
theorem fits_agg{as_ ss:List Sh}{l:List AV}(h:Fitss (.agg as_::ss) l): ∃a r:List AV,l=a++r∧Fitss as_ a∧Fitss ss r:=by
 simp only[Fitss]at h
 obtain⟨a,r,rfl,h1,h2⟩:=h
 rw[Fits]at h1
 exact⟨a,r,rfl,h1,h2⟩
theorem fits_sl{α:Type}{f:α→List AV}{s:Sh}(hs: ∀x,Fits s x→ ∃a,x=f a){ss:List Sh}{l:List AV}(h:Fitss (.slice s::ss) l): ∃(xs:List α) (r:List AV),l=.dl s.n (xs.map f)::r∧Fitss ss r∧xs.length≤9223372036854775807:=by
 simp only[Fitss]at h
 obtain⟨a,r,rfl,h1,h2⟩:=h
 obtain⟨xs,rfl,_⟩:=fits_slice (f:=f) (p:=fun _=>True) (fun x hx=>by obtain⟨a,rfl⟩:=hs x hx;exact⟨a,rfl,trivial⟩) h1
 exact⟨xs,r,rfl,h2,fits_len h1⟩
theorem fits_rch{l:List AV}(h:Fits rchS l): ∃x:Rch,l=rchC x:=by
 unfold rchS rtS at h;rw[Fits]at h
 obtain⟨nm,_,rfl,h'⟩:=fits_nm h
 obtain⟨a,_,rfl,h''⟩:=yR h'
 obtain⟨b,_,rfl,h'''⟩:=yR h''
 obtain⟨c,_,rfl,h''''⟩:=yR h'''
 obtain⟨d,_,rfl,h'''''⟩:=yR h''''
 obtain⟨e,_,rfl,h''''''⟩:=yR h'''''
 obtain⟨_,_,rfl,q,h'''''''⟩:=fits_agg h''''''
 obtain⟨lo,_,rfl,q'⟩:=yR q
 obtain⟨hi,_,rfl,q''⟩:=yR q'
 rw[uV q'']
 obtain⟨_,_,rfl,q''',h''''''''⟩:=fits_agg h'''''''
 rw[uV h'''''''']
 obtain⟨_,_,rfl,k,q''''⟩:=fits_agg q'''
 obtain⟨s,_,rfl,k'⟩:=yR k
 obtain⟨t,_,rfl,k''⟩:=yR k'
 rw[uV k'']
 obtain⟨_,_,rfl,k''',q'''''⟩:=fits_agg q''''
 obtain⟨u,_,rfl,k''''⟩:=yR k'''
 obtain⟨v,_,rfl,k'''''⟩:=yR k''''
 rw[uV k''''',uV q''''']
 exact⟨⟨nm,a,b,c,d,e,lo,hi,⟨s,t⟩,⟨u,v⟩⟩,rfl⟩
theorem fits_frm{l:List AV}(h:Fits frmS l): ∃x:Frm,l=frmC x:=by
 unfold frmS at h;rw[Fits]at h
 obtain⟨nm,_,rfl,h'⟩:=fits_nm h
 obtain⟨a,_,rfl,h''⟩:=yR h'
 obtain⟨b,_,rfl,h'''⟩:=yR h''
 obtain⟨c,_,rfl,h''''⟩:=yR h'''
 rw[uV h'''']
 exact⟨⟨nm,a,b,c⟩,rfl⟩
theorem fits_crp{l:List AV}(h:Fits crpS l): ∃x:Crp,l=crpC x:=by
 unfold crpS at h;rw[Fits]at h
 obtain⟨nm,_,rfl,h'⟩:=fits_nm h
 obtain⟨a,_,rfl,h''⟩:=yR h'
 rw[uV h'']
 exact⟨⟨nm,a⟩,rfl⟩
theorem fits_rgt{l:List AV}(h:Fits rgtS l): ∃x:Rgt,l=rgtC x:=by
 unfold rgtS at h;rw[Fits]at h
 obtain⟨nm,_,rfl,h'⟩:=fits_nm h
 obtain⟨a,_,rfl,h''⟩:=yR h'
 obtain⟨b,_,rfl,h'''⟩:=yR h''
 obtain⟨c,_,rfl,h''''⟩:=yR h'''
 obtain⟨d,_,rfl,h'''''⟩:=yR h''''
 obtain⟨e,_,rfl,h''''''⟩:=yR h'''''
 obtain⟨f,_,rfl,h'''''''⟩:=yR h''''''
 obtain⟨g,_,rfl,h''''''''⟩:=yR h'''''''
 obtain⟨i,_,rfl,h'''''''''⟩:=yR h''''''''
 obtain⟨j,_,rfl,h''''''''''⟩:=yR h'''''''''
 rw[uV h'''''''''']
 exact⟨⟨nm,a,b,c,d,e,f,g,i,j⟩,rfl⟩
theorem fits_dty{l:List AV}(h:Fits dtyS l): ∃x:Dty,l=dtyC x:=by
 unfold dtyS at h;rw[Fits]at h
 obtain⟨nm,_,rfl,h'⟩:=fits_nm h
 obtain⟨a,_,rfl,h''⟩:=yR h'
 obtain⟨b,_,rfl,h'''⟩:=yR h''
 obtain⟨c,_,rfl,h''''⟩:=yR h'''
 rw[uV h'''']
 exact⟨⟨nm,a,b,c⟩,rfl⟩
theorem fits_ii{l:List AV}(h:Fits iS l): ∃n:Int,l=intC n:=by
 obtain⟨n,rfl,_⟩:=fits_i64 h
 exact⟨n,rfl⟩
theorem fits_wll{l:List AV}(h:Fits wllS l): ∃x:Wll,l=wllC x:=by
 unfold wllS at h;rw[Fits]at h
 obtain⟨a,_,rfl,h'⟩:=yR h
 obtain⟨b,_,rfl,h''⟩:=yR h'
 obtain⟨c,_,rfl,h'''⟩:=yR h''
 obtain⟨k,_,rfl,h'''',_⟩:=fits_sl (fun _ h=>fits_ii h) h'''
 rw[uV h'''']
 exact⟨⟨a,b,c,k⟩,rfl⟩
theorem fits_prt{l:List AV}(h:Fits prtS l): ∃x:Prt,l=prtC x:=by
 unfold prtS rtS at h;rw[Fits]at h
 obtain⟨a,_,rfl,h'⟩:=yR h
 obtain⟨_,_,rfl,k,h''⟩:=fits_agg h'
 obtain⟨u,_,rfl,k'⟩:=yR k
 obtain⟨v,_,rfl,k''⟩:=yR k'
 rw[uV k'',uV h'']
 exact⟨⟨a,⟨u,v⟩⟩,rfl⟩
theorem fits_ded{l:List AV}(h:Fits dedS l): ∃x:Ded,l=dedC x:=by
 unfold dedS at h;rw[Fits]at h
 obtain⟨a,_,rfl,h'⟩:=yR h
 obtain⟨b,_,rfl,h''⟩:=yR h'
 obtain⟨c,_,rfl,h'''⟩:=yR h''
 obtain⟨d,_,rfl,h''''⟩:=yR h'''
 obtain⟨e,_,rfl,h'''''⟩:=yR h''''
 obtain⟨k,_,rfl,h'''''',_⟩:=fits_sl (fun _ h=>fits_prt h) h'''''
 obtain⟨f,_,rfl,h'''''''⟩:=yR h''''''
 obtain⟨g,_,rfl,h''''''''⟩:=yR h'''''''
 obtain⟨i,_,rfl,h'''''''''⟩:=yR h''''''''
 rw[uV h''''''''']
 exact⟨⟨a,b,c,d,e,k,f,g,i⟩,rfl⟩
theorem fits_ord{l:List AV}(h:Fits ordS l): ∃x:Ord',l=ordC x:=by
 unfold ordS at h;rw[Fits]at h
 obtain⟨a,_,rfl,h'⟩:=yR h
 obtain⟨b,_,rfl,h''⟩:=yR h'
 obtain⟨c,_,rfl,h'''⟩:=yR h''
 obtain⟨d,_,rfl,h''''⟩:=fits_bo h'''
 rw[uV h'''']
 exact⟨⟨a,b,c,d⟩,rfl⟩
theorem fits_dis{l:List AV}(h:Fits disS l): ∃d:Dis,l=disC d∧d.R.length≤9223372036854775807∧d.C.length≤9223372036854775807∧d.F.length≤9223372036854775807∧d.G.length≤9223372036854775807∧d.D.length≤9223372036854775807:=by
 unfold disS at h;rw[Fits]at h
 obtain⟨nm,_,rfl,h'⟩:=fits_nm h
 obtain⟨a,_,rfl,h''⟩:=yR h'
 obtain⟨_,_,rfl,q,h''''⟩:=fits_agg h''
 obtain⟨b,_,rfl,q'⟩:=yR q
 obtain⟨c,_,rfl,q''⟩:=yR q'
 rw[uV q'']
 obtain⟨R,_,rfl,h''''',h1⟩:=fits_sl (fun _ h=>fits_rch h) h''''
 obtain⟨F,_,rfl,h'''''',h2⟩:=fits_sl (fun _ h=>fits_frm h) h'''''
 obtain⟨C,_,rfl,h''''''',h3⟩:=fits_sl (fun _ h=>fits_crp h) h''''''
 obtain⟨G,_,rfl,h'''''''',h4⟩:=fits_sl (fun _ h=>fits_rgt h) h'''''''
 obtain⟨D,_,rfl,h''''''''',h5⟩:=fits_sl (fun _ h=>fits_dty h) h''''''''
 obtain⟨W,_,rfl,h'''''''''',_⟩:=fits_sl (fun _ h=>fits_wll h) h'''''''''
 rw[uV h'''''''''']
 exact⟨⟨nm,a,b,c,R,F,C,G,D,W⟩,rfl,h1,h3,h2,h4,h5⟩
theorem fits_deds{l:List AV}(h:Fits (.slice dedS) l): ∃xs:List Ded,l=[deds xs]∧xs.length≤9223372036854775807:=by
 have h':=h
 obtain⟨xs,rfl,_⟩:=fits_slice (f:=dedC) (p:=fun _=>True) (fun x hx=>by obtain⟨a,rfl⟩:=fits_ded hx;exact⟨a,rfl,trivial⟩) h
 exact⟨xs,rfl,fits_len h'⟩
theorem fits_ords{l:List AV}(h:Fits (.slice ordS) l): ∃xs:List Ord',l=[ords xs]:=by
 obtain⟨xs,rfl,_⟩:=fits_slice (f:=ordC) (p:=fun _=>True) (fun x hx=>by obtain⟨a,rfl⟩:=fits_ord hx;exact⟨a,rfl,trivial⟩) h
 exact⟨xs,rfl⟩
end Go.Proofs.YtaoaafdommlhcaaGreat
