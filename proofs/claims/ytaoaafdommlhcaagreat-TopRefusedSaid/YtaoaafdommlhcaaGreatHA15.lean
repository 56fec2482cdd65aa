/- Parts of the proof that belong together: Bd Be Ca Cb Sbu Cc Cd Ce. -/
import Derived.Test.YtaoaafdommlhcaaGreatHA07
import Derived.Test.YtaoaafdommlhcaaGreatHA10
import Derived.Test.YtaoaafdommlhcaaGreatHA13
import Derived.Test.YtaoaafdommlhcaaGreatHA14
set_option maxRecDepth 10000
set_option maxHeartbeats 8000000
set_option linter.unusedSimpArgs false
set_option linter.unusedVariables false
set_option autoImplicit false
open Go.Proofs.Tryz
namespace Go.Proofs.YtaoaafdommlhcaaGreat
abbrev refV(e:Int):Value:=.iface 297 (.int .i64 e)
abbrev chX(e:Int):List PanicEntry:=[{v:=refV e,recovered:=false}]
theorem wX(q:Bool)(e:Int)(σ:List Ent):PCall prog (chX e) (q=false) 144 [.bool q,.int .i64 e] σ (fun r τ=>q=true∧r=.tup []∧τ=σ):=by
 refine pcall_of func144 rfl (by simp) ?_
 cases q
 ·repeat' first|(refine zge ?_;(refine exl_pcore (R:=fun _ _=>False) (fun _ _ _ _=>rfl) rfl (N:=False=False) (gp_panic rfl rfl rfl _) (fun _=>And.intro rfl (And.intro rfl rfl)) (fun _ _ h=>h.elim)))|(refine zB ?_;intros)|(apply qX;exact zD;rfl;rfl;(exact g_iface rfl rfl))|(refine yV ?_ ?_<;>(intro z;cases z with|_ h)<;>intro hp)|exact nl|fail
 ·refine yW ?_;intros
  refine zS (σ3:=σ) .nil zG zJ ?_
  exact zY ⟨trivial,rfl,rfl⟩
theorem examine_c(d:Dis)(hR:d.R.length≤64)(hF:d.F.length≤600)(hC:d.C.length≤32)(hG:d.G.length≤256)(hD:d.D.length≤256)(σ:List Ent):
  PCall prog (chX 191) (yD d=false) 145 [disV d,.int .i64 191] σ (fun r τ=>yD d=true∧r=.tup []∧τ=σ):=by
 refine pcall_of func145 rfl (by simp) ?_
 obtain⟨V,hV⟩: ∃V,yD d=V:=⟨_,rfl⟩
 rw[hV]
 unfold yD at hV
 have c1:=tH [1,d.hours,4096]
 have c2:=tH [0,d.start,d.cap,1099511627776]
 by_cases hh:tY d=true
 ·rw[hh,Bool.true_and]at hV
  unfold tY at hh
  simp only[Bool.and_eq_true,decide_eq_true_eq]at hh
  obtain⟨⟨h1,h2⟩,h3⟩:=hh
  rw[h1]at c1
  rw[h2]at c2
  have hhrs:1≤d.hours∧d.hours≤4096:=by simp[vS]at h1;omega
  have hdec:decide ((0:Int)<d.R.length)=true:=decide_eq_true h3
  repeat' first|(refine zge ?_;(refine pS rfl rfl rfl (vK rfl rfl (zX (by kernel_rfl)) (wX _ _ _)) (fun hN=>(by subst hN;rename BV _ _=>g;have hg:=g.eq;rw[hdec]at hg;cases hg)) ?_;rintro _ _ ⟨_,rfl,rfl⟩))|(refine zB ?_;intros)|(apply qX;exact zD;rfl;rfl;exact zlt)|(refine xB ?_;intros)|(apply yQ;exact zD;rfl;rfl;refine zL ?_;first|exact c1 _|exact c2 _)|(refine yV ?_ ?_<;>(intro z;cases z with|_ h)<;>intro hp)|exact nl|cases ‹BV _ _›|fail
  rename Nat=>b2;revert b2
  intro b2
  clear c1 c2 hdec h1 h2 h3
  refine zU (fun(k:Nat)=>(⟨[(1,.int .i64 191),(2,.ptr b2 0),(38,rchs d.R),(39,.int .i64 d.R.length),(40,.int .i64 k)],.cells b2 (disC d) 31::σ,[],f145.ntmps⟩:St)) (fun k=>k≤d.R.length∧(allI reachB k (d.R.drop k)&&d.C.all cropB&&d.F.all (farmB d)&&d.G.all (qC d)&&d.D.all (dutyB d))=V) (fun k=>d.R.length-k) 0 (⟨Nat.zero_le _,hV⟩) (St.le_of zC yY) ?_
  intro k hI
  obtain⟨hI1,hI2⟩:=hI
  clear hV
  by_cases hk:k<d.R.length
  ·obtain⟨x,hx⟩:=zH hk
   have hg:(d.R.map rchC)[k]?=some (rchC x):=by rw[List.getElem?_map,hx];rfl
   have cr:=reach_c k x
   rw[allI_drop hx]at hI2
   clear hx
   cases hb:reachB k x with
   |false=>
    rw[hb]at cr hI2
    simp only[Bool.false_and]at hI2
    repeat' first|(refine zge ?_;(refine pS rfl rfl rfl (vK rfl rfl (zX (by kernel_rfl)) (wX _ _ _)) (fun hN=>And.intro rfl (And.intro rfl hI2.symm)) ?_;rintro _ _ ⟨hq,_⟩;cases hq))|(refine yX ?_;intros)|(apply yQ;exact zD;rfl;rfl;refine zL ?_;exact cr _)|(refine yV ?_ ?_<;>(intro z;cases z with|_ h)<;>intro hp)|exact nl|cases ‹BV _ _›|fail
   |true=>
    rw[hb,Bool.true_and]at hI2
    rw[hb]at cr
    repeat' first|(refine zge ?_;(refine pS rfl rfl rfl (vK rfl rfl (zX (by kernel_rfl)) (wX _ _ _)) (fun hN=>(by subst hN;rename BV _ _=>g;cases g.eq)) ?_;rintro _ _ ⟨_,rfl,rfl⟩))|(refine yX ?_;intros)|(apply yQ;exact zD;rfl;rfl;refine zL ?_;exact cr _)|(refine yV ?_ ?_<;>(intro z;cases z with|_ h)<;>intro hp)|exact nl|cases ‹BV _ _›|fail
    refine⟨k+1,⟨hk,hI2⟩,by omega,?_⟩
    exact(St.le_of zC zJ)
  ·obtain rfl:k=d.R.length:=by omega
   rw[List.drop_length]at hI2
   simp only[allI,Bool.true_and]at hI2
   refine yW ?_;intros
   refine zU (fun(k:Nat)=>(⟨[(1,.int .i64 191),(2,.ptr b2 0),(52,crps d.C),(53,.int .i64 d.C.length),(54,.int .i64 k)],.cells b2 (disC d) 31::σ,[],f145.ntmps⟩:St)) (fun k=>k≤d.C.length∧((d.C.drop k).all cropB&&d.F.all (farmB d)&&d.G.all (qC d)&&d.D.all (dutyB d))=V) (fun k=>d.C.length-k) 0 (⟨Nat.zero_le _,hI2⟩) (St.le_of zC yY) ?_
   intro k hI
   obtain⟨hI1,hI2⟩:=hI
   by_cases hk:k<d.C.length
   ·obtain⟨x,hx⟩:=zH hk
    have hg:(d.C.map crpC)[k]?=some (crpC x):=by rw[List.getElem?_map,hx];rfl
    have cr:=tH [0,x.need,1048576]
    rw[jT hx]at hI2
    clear hx
    unfold cropB at hI2
    cases hb:vS [0,x.need,1048576] with
    |false=>
     rw[hb]at cr hI2
     simp only[Bool.false_and]at hI2
     repeat' first|(refine zge ?_;(refine pS rfl rfl rfl (vK rfl rfl (zX (by kernel_rfl)) (wX _ _ _)) (fun hN=>And.intro rfl (And.intro rfl hI2.symm)) ?_;rintro _ _ ⟨hq,_⟩;cases hq))|(refine zB ?_;intros)|(apply qX;exact zD;rfl;rfl;exact zlt)|(refine xB ?_;intros)|(apply yQ;exact zD;rfl;rfl;refine zL ?_;exact cr _)|(refine yV ?_ ?_<;>(intro z;cases z with|_ h)<;>intro hp)|exact nl|cases ‹BV _ _›|fail
    |true=>
     rw[hb,Bool.true_and]at hI2
     rw[hb]at cr
     repeat' first|(refine zge ?_;(refine pS rfl rfl rfl (vK rfl rfl (zX (by kernel_rfl)) (wX _ _ _)) (fun hN=>(by subst hN;rename BV _ _=>g;cases g.eq)) ?_;rintro _ _ ⟨_,rfl,rfl⟩))|(refine zB ?_;intros)|(apply qX;exact zD;rfl;rfl;exact zlt)|(refine xB ?_;intros)|(apply yQ;exact zD;rfl;rfl;refine zL ?_;exact cr _)|(refine yV ?_ ?_<;>(intro z;cases z with|_ h)<;>intro hp)|exact nl|cases ‹BV _ _›|fail
     refine⟨k+1,⟨hk,hI2⟩,by omega,?_⟩
     exact(St.le_of zC zJ)
   ·obtain rfl:k=d.C.length:=by omega
    rw[List.drop_length]at hI2
    simp only[List.all_nil,Bool.true_and]at hI2
    refine yW ?_;intros
    refine zU (fun(k:Nat)=>(⟨[(1,.int .i64 191),(2,.ptr b2 0),(66,frms d.F),(67,.int .i64 d.F.length),(68,.int .i64 k)],.cells b2 (disC d) 31::σ,[],f145.ntmps⟩:St)) (fun k=>k≤d.F.length∧((d.F.drop k).all (farmB d)&&d.G.all (qC d)&&d.D.all (dutyB d))=V) (fun k=>d.F.length-k) 0 (⟨Nat.zero_le _,hI2⟩) (St.le_of zC yY) ?_
    intro k hI
    obtain⟨hI1,hI2⟩:=hI
    by_cases hk:k<d.F.length
    ·obtain⟨x,hx⟩:=zH hk
     have hg:(d.F.map frmC)[k]?=some (frmC x):=by rw[List.getElem?_map,hx];rfl
     have ci:=index_c x.crop d.C.length
     have cj:=index_c x.reach d.R.length
     have cr:=tH [0,x.area,1048576]
     rw[jT hx]at hI2
     clear hx
     unfold farmB at hI2
     generalize vS [0,x.area,1048576]=p3 at cr hI2
     generalize idxB x.reach d.R.length=p2 at cj hI2
     by_cases ha:0<x.area
     ·rw[if_pos ha]at hI2
      generalize idxB x.crop d.C.length=p1 at ci hI2
      cases p1 with
      |false=>
       simp only[Bool.false_and]at hI2
       repeat' first|(refine zge ?_;(refine pS rfl rfl rfl (vK rfl rfl (zX (by kernel_rfl)) (wX _ _ _)) (fun hN=>And.intro rfl (And.intro rfl hI2.symm)) ?_;rintro _ _ ⟨hq,_⟩;cases hq))|(refine zB ?_;intros)|(refine xB ?_;intros)|(apply yQ;exact zD;rfl;rfl;refine zL ?_;exact ci _)|(refine yV ?_ ?_<;>(intro z;cases z with|_ h)<;>intro hp)|exact nl|fail
      |true=>
      cases p2 with
      |false=>
       simp only[Bool.false_and,Bool.and_false]at hI2
       repeat' first|(refine zge ?_;(refine pS rfl rfl rfl (vK rfl rfl (zX (by kernel_rfl)) (wX _ _ _)) (fun hN=>And.intro rfl (And.intro rfl hI2.symm)) ?_;rintro _ _ ⟨hq,_⟩;cases hq))|(refine zB ?_;intros)|(refine xB ?_;intros)|(apply yQ;exact zD;rfl;rfl;refine zL ?_;first|exact ci _|exact cj _)|(refine yV ?_ ?_<;>(intro z;cases z with|_ h)<;>intro hp)|exact nl|fail
      |true=>
      cases p3 with
      |false=>
       simp only[Bool.false_and,Bool.and_false]at hI2
       repeat' first|(refine zge ?_;(refine pS rfl rfl rfl (vK rfl rfl (zX (by kernel_rfl)) (wX _ _ _)) (fun hN=>And.intro rfl (And.intro rfl hI2.symm)) ?_;rintro _ _ ⟨hq,_⟩;cases hq))|(refine zB ?_;intros)|(apply qX;exact zD;rfl;rfl;exact zlt)|(refine xB ?_;intros)|(apply yQ;exact zD;rfl;rfl;refine zL ?_;first|exact ci _|exact cj _|exact cr _)|(refine yV ?_ ?_<;>(intro z;cases z with|_ h)<;>intro hp)|exact nl|cases ‹BV _ _›|fail
      |true=>
       simp only[Bool.true_and]at hI2
       repeat' first|(refine zge ?_;(refine pS rfl rfl rfl (vK rfl rfl (zX (by kernel_rfl)) (wX _ _ _)) (fun hN=>(by subst hN;rename BV _ _=>g;cases g.eq)) ?_;rintro _ _ ⟨_,rfl,rfl⟩))|(refine zB ?_;intros)|(apply qX;exact zD;rfl;rfl;exact zlt)|(refine xB ?_;intros)|(apply yQ;exact zD;rfl;rfl;refine zL ?_;first|exact ci _|exact cj _|exact cr _)|(refine yV ?_ ?_<;>(intro z;cases z with|_ h)<;>intro hp)|exact nl|cases ‹BV _ _›|fail
       refine⟨k+1,⟨hk,hI2⟩,by omega,?_⟩
       exact(St.le_of zC zJ)
     ·rw[if_neg ha]at hI2
      by_cases hc:x.crop= -1
      ·rw[decide_eq_true hc]at hI2
       have hcb:(x.crop== -1)=true:=by rw[hc];rfl
       cases p2 with
       |false=>
        simp only[Bool.false_and,Bool.and_false]at hI2
        repeat' first|(refine zge ?_;(refine pS rfl rfl rfl (vK rfl rfl (zX (by kernel_rfl)) (wX _ _ _)) (fun hN=>And.intro rfl (And.intro rfl hI2.symm)) ?_;rintro _ _ ⟨hq,_⟩;cases hq))|(refine zB ?_;intros)|(refine xB ?_;intros)|(apply yQ;exact zD;rfl;rfl;refine zL ?_;exact cj _)|(refine yV ?_ ?_<;>(intro z;cases z with|_ h)<;>intro hp)|exact nl|fail
       |true=>
       cases p3 with
       |false=>
        simp only[Bool.false_and,Bool.and_false]at hI2
        repeat' first|(refine zge ?_;(refine pS rfl rfl rfl (vK rfl rfl (zX (by kernel_rfl)) (wX _ _ _)) (fun hN=>And.intro rfl (And.intro rfl hI2.symm)) ?_;rintro _ _ ⟨hq,_⟩;cases hq))|(refine zB ?_;intros)|(apply qX;exact zD;rfl;rfl;exact zlt)|(refine xB ?_;intros)|(apply yQ;exact zD;rfl;rfl;refine zL ?_;first|exact cj _|exact cr _)|(refine yV ?_ ?_<;>(intro z;cases z with|_ h)<;>intro hp)|exact nl|cases ‹BV _ _›|fail
       |true=>
        simp only[Bool.true_and]at hI2
        repeat' first|(refine zge ?_;(refine pS rfl rfl rfl (vK rfl rfl (zX (by kernel_rfl)) (wX _ _ _)) (fun hN=>(by subst hN;rename BV _ _=>g;cases g.eq)) ?_;rintro _ _ ⟨_,rfl,rfl⟩))|(refine zB ?_;intros)|(apply qX;exact zD;rfl;rfl;exact zlt)|(refine xB ?_;intros)|(apply yQ;exact zD;rfl;rfl;refine zL ?_;first|exact cj _|exact cr _)|(refine yV ?_ ?_<;>(intro z;cases z with|_ h)<;>intro hp)|exact nl|cases ‹BV _ _›|fail
        refine⟨k+1,⟨hk,hI2⟩,by omega,?_⟩
        exact(St.le_of zC zJ)
      ·rw[decide_eq_false hc]at hI2
       simp only[Bool.false_and]at hI2
       repeat' first|(refine zge ?_;(refine pS rfl rfl rfl (vK rfl rfl (zX (by kernel_rfl)) (wX _ _ _)) (fun hN=>And.intro rfl (And.intro rfl hI2.symm)) ?_;rintro _ _ ⟨hq,_⟩;cases hq))|(refine zB ?_;intros)|(refine xB ?_;intros)|(refine yV ?_ ?_<;>(intro z;cases z with|_ h)<;>intro hp)|exact nl|fail
    ·obtain rfl:k=d.F.length:=by omega
     rw[List.drop_length]at hI2
     simp only[List.all_nil,Bool.true_and]at hI2
     refine yW ?_;intros
     refine zU (fun(k:Nat)=>(⟨[(1,.int .i64 191),(2,.ptr b2 0),(103,rgts d.G),(104,.int .i64 d.G.length),(105,.int .i64 k)],.cells b2 (disC d) 31::σ,[],f145.ntmps⟩:St)) (fun k=>k≤d.G.length∧((d.G.drop k).all (qC d)&&d.D.all (dutyB d))=V) (fun k=>d.G.length-k) 0 (⟨Nat.zero_le _,hI2⟩) (St.le_of zC yY) ?_
     intro k hI
     obtain⟨hI1,hI2⟩:=hI
     by_cases hk:k<d.G.length
     ·obtain⟨x,hx⟩:=zH hk
      have hg:(d.G.map rgtC)[k]?=some (rgtC x):=by rw[List.getElem?_map,hx];rfl
      have cr:=right_c d x hhrs
      rw[jT hx]at hI2
      clear hx
      generalize qC d x=p at cr hI2
      cases p with
      |false=>
       simp only[Bool.false_and]at hI2
       repeat' first|(refine zge ?_;(refine pS rfl rfl rfl (vK rfl rfl (zX (by kernel_rfl)) (wX _ _ _)) (fun hN=>And.intro rfl (And.intro rfl hI2.symm)) ?_;rintro _ _ ⟨hq,_⟩;cases hq))|(refine yX ?_;intros)|(apply yQ;exact zD;rfl;rfl;refine zL ?_;exact cr _)|(refine yV ?_ ?_<;>(intro z;cases z with|_ h)<;>intro hp)|exact nl|cases ‹BV _ _›|fail
      |true=>
       simp only[Bool.true_and]at hI2
       repeat' first|(refine zge ?_;(refine pS rfl rfl rfl (vK rfl rfl (zX (by kernel_rfl)) (wX _ _ _)) (fun hN=>(by subst hN;rename BV _ _=>g;cases g.eq)) ?_;rintro _ _ ⟨_,rfl,rfl⟩))|(refine yX ?_;intros)|(apply yQ;exact zD;rfl;rfl;refine zL ?_;exact cr _)|(refine yV ?_ ?_<;>(intro z;cases z with|_ h)<;>intro hp)|exact nl|cases ‹BV _ _›|fail
       refine⟨k+1,⟨hk,hI2⟩,by omega,?_⟩
       exact(St.le_of zC zJ)
     ·obtain rfl:k=d.G.length:=by omega
      rw[List.drop_length]at hI2
      simp only[List.all_nil,Bool.true_and]at hI2
      refine yW ?_;intros
      refine zU (fun(k:Nat)=>(⟨[(1,.int .i64 191),(2,.ptr b2 0),(116,dtys d.D),(117,.int .i64 d.D.length),(118,.int .i64 k)],.cells b2 (disC d) 31::σ,[],f145.ntmps⟩:St)) (fun k=>k≤d.D.length∧(d.D.drop k).all (dutyB d)=V) (fun k=>d.D.length-k) 0 (⟨Nat.zero_le _,hI2⟩) (St.le_of zC yY) ?_
      intro k hI
      obtain⟨hI1,hI2⟩:=hI
      by_cases hk:k<d.D.length
      ·obtain⟨x,hx⟩:=zH hk
       have hg:(d.D.map dtyC)[k]?=some (dtyC x):=by rw[List.getElem?_map,hx];rfl
       have ci:=index_c x.farm d.F.length
       have cj:=index_c x.reach d.R.length
       have cr:=tH [0,x.due,d.hours]
       rw[jT hx]at hI2
       clear hx
       unfold dutyB at hI2
       generalize vS [0,x.due,d.hours]=p3 at cr hI2
       generalize idxB x.reach d.R.length=p2 at cj hI2
       generalize idxB x.farm d.F.length=p1 at ci hI2
       cases p1 with
       |false=>
        simp only[Bool.false_and]at hI2
        repeat' first|(refine zge ?_;(refine pS rfl rfl rfl (vK rfl rfl (zX (by kernel_rfl)) (wX _ _ _)) (fun hN=>And.intro rfl (And.intro rfl hI2.symm)) ?_;rintro _ _ ⟨hq,_⟩;cases hq))|(refine zB ?_;intros)|(refine xB ?_;intros)|(apply yQ;exact zD;rfl;rfl;refine zL ?_;exact ci _)|(refine yV ?_ ?_<;>(intro z;cases z with|_ h)<;>intro hp)|exact nl|fail
       |true=>
       cases p2 with
       |false=>
        simp only[Bool.false_and,Bool.and_false]at hI2
        repeat' first|(refine zge ?_;(refine pS rfl rfl rfl (vK rfl rfl (zX (by kernel_rfl)) (wX _ _ _)) (fun hN=>And.intro rfl (And.intro rfl hI2.symm)) ?_;rintro _ _ ⟨hq,_⟩;cases hq))|(refine zB ?_;intros)|(refine xB ?_;intros)|(apply yQ;exact zD;rfl;rfl;refine zL ?_;first|exact ci _|exact cj _)|(refine yV ?_ ?_<;>(intro z;cases z with|_ h)<;>intro hp)|exact nl|fail
       |true=>
       cases p3 with
       |false=>
        simp only[Bool.false_and,Bool.and_false]at hI2
        repeat' first|(refine zge ?_;(refine pS rfl rfl rfl (vK rfl rfl (zX (by kernel_rfl)) (wX _ _ _)) (fun hN=>And.intro rfl (And.intro rfl hI2.symm)) ?_;rintro _ _ ⟨hq,_⟩;cases hq))|(refine zB ?_;intros)|(apply qX;exact zD;rfl;rfl;exact zlt)|(refine xB ?_;intros)|(apply yQ;exact zD;rfl;rfl;refine zL ?_;first|exact ci _|exact cj _|exact cr _)|(refine yV ?_ ?_<;>(intro z;cases z with|_ h)<;>intro hp)|exact nl|cases ‹BV _ _›|fail
       |true=>
        simp only[Bool.true_and]at hI2
        repeat' first|(refine zge ?_;(refine pS rfl rfl rfl (vK rfl rfl (zX (by kernel_rfl)) (wX _ _ _)) (fun hN=>(by subst hN;rename BV _ _=>g;cases g.eq)) ?_;rintro _ _ ⟨_,rfl,rfl⟩))|(refine zB ?_;intros)|(apply qX;exact zD;rfl;rfl;exact zlt)|(refine xB ?_;intros)|(apply yQ;exact zD;rfl;rfl;refine zL ?_;first|exact ci _|exact cj _|exact cr _)|(refine yV ?_ ?_<;>(intro z;cases z with|_ h)<;>intro hp)|exact nl|cases ‹BV _ _›|fail
        refine⟨k+1,⟨hk,hI2⟩,by omega,?_⟩
        exact(St.le_of zC zJ)
      ·obtain rfl:k=d.D.length:=by omega
       rw[List.drop_length]at hI2
       simp only[List.all_nil]at hI2
       refine yW ?_;intros
       refine zS (σ3:=σ) .nil zG zJ ?_
       exact zY ⟨hI2.symm,rfl,rfl⟩
 ·have hhf:tY d=false:=by simpa using hh
  rw[hhf]at hV
  simp only[Bool.false_and]at hV
  unfold tY at hhf
  generalize vS [1,d.hours,4096]=p1 at c1 hhf
  generalize vS [0,d.start,d.cap,1099511627776]=p2 at c2 hhf
  clear hh
  cases p1 with
  |false=>
   repeat' first|(refine zge ?_;(refine pS rfl rfl rfl (vK rfl rfl (zX (by kernel_rfl)) (wX _ _ _)) (fun hN=>And.intro rfl (And.intro rfl hV.symm)) ?_;rintro _ _ ⟨hq,_⟩;cases hq))|(refine zB ?_;intros)|(apply qX;exact zD;rfl;rfl;exact zlt)|(refine xB ?_;intros)|(apply yQ;exact zD;rfl;rfl;refine zL ?_;exact c1 _)|(refine yV ?_ ?_<;>(intro z;cases z with|_ h)<;>intro hp)|exact nl|fail
  |true=>
  cases p2 with
  |false=>
   repeat' first|(refine zge ?_;(refine pS rfl rfl rfl (vK rfl rfl (zX (by kernel_rfl)) (wX _ _ _)) (fun hN=>And.intro rfl (And.intro rfl hV.symm)) ?_;rintro _ _ ⟨hq,_⟩;cases hq))|(refine zB ?_;intros)|(apply qX;exact zD;rfl;rfl;exact zlt)|(refine xB ?_;intros)|(apply yQ;exact zD;rfl;rfl;refine zL ?_;first|exact c1 _|exact c2 _)|(refine yV ?_ ?_<;>(intro z;cases z with|_ h)<;>intro hp)|exact nl|fail
  |true=>
   have hl:decide ((0:Int)<d.R.length)=false:=by simpa using hhf
   clear hhf
   repeat' first|(refine zge ?_;(refine pS rfl rfl rfl (vK rfl rfl (zX (by kernel_rfl)) (wX _ _ _)) (fun hN=>And.intro rfl (And.intro rfl hV.symm)) ?_;rintro _ _ ⟨hq,_⟩;exfalso;subst hq;rename BV _ _=>g;have hgl:=g.eq;rw[hl]at hgl;cases hgl))|(refine zB ?_;intros)|(apply qX;exact zD;rfl;rfl;exact zlt)|(refine xB ?_;intros)|(apply yQ;exact zD;rfl;rfl;refine zL ?_;first|exact c1 _|exact c2 _)|(refine yV ?_ ?_<;>(intro z;cases z with|_ h)<;>intro hp)|exact nl|fail
theorem g_assertOk{P:Program}{ro:Option Nat}{env:Env}{σ:List Ent}{dst:Option Tmp}{ty:TypeId}{pos:String}{after:Array Edge}{guard:Option (Nat×Bool)}{t xt:TypeId}{x:Operand}{k:IntKind}{a:Int}(ht:concB P t=true)(hx:xP env x=some (.raw (.iface t (.int k a)))):GOp P ro ⟨dst,.typeAssert x xt t true,ty,pos,after,guard⟩ env σ (Is (.tup [.int k a,.bool true]) σ):=
 zA _ (by intro c h;cases h) fun X M e w hg ho=>by
  have h1:=ho x (by simp[Op.operands]) _ hx
  simp only[VRel]at h1
  refine⟨.tuple #[.int k a,.bool true],by simp only[VRel,VRels];exact⟨_,rfl,_,_,rfl,rfl,_,_,rfl,rfl,rfl⟩,?_⟩
  unfold concB at ht
  split at ht
  ·cases ht
  ·rename_i d hd hne
   simp only[execOp,h1,Instr.typeAssert,Sem.run_bind,run_underlying hne]
   cases d<;>first|exact(hd _ rfl).elim|(simp;done)
  ·cases ht
theorem caught_c(e:Int)(σ:List Ent):SCall prog 143 [.raw (refV e)] σ (Is (.int .i64 e) σ):=by
 refine zZ func143 rfl (by simp) ?_
 repeat' first|(refine zB ?_;intros)|(apply qX;exact zD;rfl;rfl;(exact g_assertOk rfl rfl))|fail
 refine zW .nil zG zJ ?_
 rfl
theorem one_of{ws:Array Value}(h:ws.size=1): ∃a,ws=#[a]:=by
 obtain⟨l⟩:=ws
 match l,h with
 |[a],_=>exact⟨a,rfl⟩
theorem idleC_c:Idle prog 142 1:=by
 intro ws w hws
 obtain⟨a,rfl⟩:=one_of hws
 refine callsDIn_of_wpSIn func142 rfl trivial fun c₀ cs hu=>?_
 apply wpSIn_seq
 apply wpSIn_region
 simp[wpOpsSIn,go_sem,recoverD,hu,Tryz.ntmps142,Exit.thenS]
 apply wpSIn_seq
 apply wpSIn_region
 simp[wpOpsSIn,go_sem,Exit.thenS]
 refine wpSIn_cond (t:=false) (by simp[Act.eval,Array.replicate]) ?_
 simp only[Bool.false_eq_true,if_false]
 refine wpSIn_of_wpIn rfl (wpIn_skip ?_)
 cases c₀
 simp_all [bodyPostS,results]
theorem run_equalIn_iface{P:Program}{t u:TypeId}{v:Value}{ms:Array (String×TypeId)}(ht:P.underlying t=some (.interface ms))(d:Nat)(w:World):(Op.equalIn (d+1) t (.iface u v) .nilIface).run P w=.ok false w:=by
 simp only[Op.equalIn,Sem.run_bind,run_underlying ht,Result.andThen_ok,Sem.run_pure]
theorem run_neq_iface{P:Program}{t u:TypeId}{v:Value}{ms:Array (String×TypeId)}(ht:P.underlying t=some (.interface ms))(w:World):(binOp .neq t (.iface u v) .nilIface).run P w=.ok (.bool true) w:=by
 have h:=run_equalIn_iface (P:=P) (u:=u) (v:=v) ht 9999 w
 simp only[binOp]
 simp only[Op.equal,Op.maxDepth,Sem.run_bind,Sem.run_map,h]
 rfl
theorem g_neqIface{ro:Option Nat}{P:Program}{dst:Option Tmp}{ty:TypeId}{pos:String}{after:Array Edge}{guard:Option (Nat×Bool)}{env:Env}{σ:List Ent}{x:Operand}{t yt:TypeId}{u:TypeId}{v:Value}{ms:Array (String×TypeId)}(ht:P.underlying t=some (.interface ms))(hx:xP env x=some (.raw (.iface u v))):
  GOp P ro ⟨dst,.binOp .neq t x (.const .nilIface) yt,ty,pos,after,guard⟩ env σ (Is (.bool true) σ):=
 zA _ (by intro c h;cases h) fun X M e w hg ho=>by
  have h1:=ho x (by simp[Op.operands]) _ hx
  simp only[VRel]at h1
  refine⟨.bool true,by simp[VRel],?_⟩
  have e2:e.eval (.const .nilIface)=.nilIface:=rfl
  simp only[execOp,h1,e2,Sem.run_bind,run_neq_iface ht]
  rfl
theorem savesC_c(e:Int)(be:Nat)(x:AV)(σ0:List Ent):Saves prog (chX e) 142 [.ptr be 0] (.cells be [x] 40::σ0) (fun σ'=>σ'=.cells be [.int .i64 e] 40::σ0):=by
 intro X M w ws hg0 ha
 have hsz:=ha.length
 simp only[Array.length_toList,List.length_cons,List.length_nil]at hsz
 obtain⟨a,rfl⟩:=one_of hsz
 simp only[VRels,VRel,List.cons.injEq]at ha
 obtain⟨_,_,⟨rfl,_⟩,ha1,_⟩:=ha
 subst ha1
 refine callsDIn_of_wpSIn func142 rfl trivial fun c₀ cs hu=>?_
 apply wpSIn_seq
 apply wpSIn_region
 simp[wpOpsSIn,go_sem,recoverD,hu,Tryz.ntmps142,Exit.thenS]
 refine wpSIn_of_wpIn rfl ?_
 obtain⟨Y,hY⟩: ∃Y:Fx,Y={X with dt:=[]}:=⟨_,rfl⟩
 have hg:Good Y M (.cells be [x] 40::σ0) w:=hY▸hg0.dt []
 have back: ∀{M σ w},Good Y M σ w→Good X M σ w:=fun h=>(hY▸h:Good {X with dt:=[]} _ _ _).undt
 have hsim:Sim Y M ⟨[(0,.ptr be 0),(1,.raw (refV e))],.cells be [x] 40::σ0,[],7⟩ {tmps:=#[.pointer (some ⟨be,0,none⟩)]++((Array.replicate 6 undef).setIfInBounds 1 (refV e)).setIfInBounds 0 (refV e),defers:=[]} w:=by
  refine⟨hg,rfl,by rw[hY];rfl,fun t v ht=>?_⟩
  match t,ht with
  |0,ht=>cases (show some (AV.ptr be 0)=some v from ht);exact⟨_,rfl,by simp[VRel]⟩
  |1,ht=>cases (show some (AV.raw (refV e))=some v from ht);exact⟨_,rfl,by simp[VRel]⟩
  |n+2,ht=>cases (show none=some v from ht)
 refine Go.wpIn_mono (EX.run (Q:=fun e' s=>e'=.normal∧s.marks=[]∧s.σ=.cells be [.int .i64 e] 40::σ0) ?_ Y M _ w hsim) ?_
 ·repeat' first|(refine zB ?_;intros)|(apply qX;exact zD;rfl;rfl;(exact g_neqIface rfl rfl))|(refine xB ?_;intros)|(apply yQ;exact zD;rfl;rfl;refine zL ?_;exact caught_c _ _)|fail
  exact⟨trivial,trivial,trivial⟩
 ·rintro e' a' w' ⟨M',s',hm,hs',rfl,hmk,hσ⟩
  have hdf:=hs'.defs
  rw[hmk,hY]at hdf
  refine⟨hdf,_,rfl,.tuple #[],by simp[results],⟨_,rfl⟩,rfl,M',hm,?_⟩
  rw[←hσ]
  exact back hs'.good
theorem check_c(d:Dis)(σ:List Ent):SCall prog 92 [disV d] σ (Is (.int .i64 (yZ d)) σ):=by
 refine scall_ofD func92 rfl (by simp) ?_
 unfold yZ
 refine exd_seq ?_
 refine yW ?_;intros
 rename Nat=>b2;revert b2;rename Nat=>b1;revert b1
 intro b1 b2
 refine exd_region (exdl_op rfl rfl (g_makeFunc rfl rfl) ?_)
 rintro _ _ ⟨⟩
 cases hf:fewB d with
 |false=>
  rw[if_pos rfl]
  refine exdl_deferP (ch:=chX 2) rfl (zX (by kernel_rfl)) idleC_c ?_
  have hD:(d.R.length:Int)≤64→(d.F.length:Int)≤600→(d.C.length:Int)≤32→(d.G.length:Int)≤256→decide ((d.D.length:Int)≤256)=false:=fun a1 a2 a3 a4=>by
   unfold fewB at hf
   rw[decide_eq_true a1,decide_eq_true a2,decide_eq_true a3,decide_eq_true a4]at hf
   simpa using hf
  clear hf
  refine uZ ?_;and_intros<;>first|exact nl|intros
  all_goals
   refine exl_pf rfl rfl rfl (zX (by kernel_rfl)) ((wX _ _ []).framed _ (List.Perm.refl _)) (fun hN=>And.intro rfl (And.intro rfl ⟨_,_,List.Sublist.refl _,savesC_c 2 b2 _ _,?_⟩)) ?_
   ·rintro _ rfl
    refine⟨[.int .i64 2],.cons (.ofCell rfl rfl (.p yP rfl)) .nil,?_⟩
    refine fin_drop (σ':=σ) (.cons _ (.cons _ (List.Sublist.refl _))) ?_
    exact zY .mk
   ·rintro _ _ ⟨_,⟨hq,_⟩,_⟩
    exfalso
    first
     |(cases hq;done)
     |(rw[hD (by assumption) (by assumption) (by assumption) (by assumption)]at hq;cases hq;done)
     |(subst hq;rename BV _ _=>g;have hg:=g.eq;rw[hD (by assumption) (by assumption) (by assumption) (by assumption)]at hg;cases hg;done)
 |true=>
  rw[if_neg (by decide)]
  refine exdl_deferP (ch:=chX 191) rfl (zX (by kernel_rfl)) idleC_c ?_
  unfold fewB at hf
  simp only[Bool.and_eq_true,decide_eq_true_eq]at hf
  obtain⟨⟨⟨⟨l1,l2⟩,l3⟩,l4⟩,l5⟩:=hf
  have hD5:decide ((d.D.length:Int)≤256)=true:=decide_eq_true l5
  have ce:=examine_c d (by omega) (by omega) (by omega) (by omega) (by omega)
  refine yW ?_;intros
  refine exl_pf rfl rfl rfl (zX (by kernel_rfl)) ((wX _ _ []).framed _ (List.Perm.refl _)) (fun hN=>(by rw[hD5]at hN;cases hN)) ?_
  rintro _ _ ⟨_,⟨_,rfl,rfl⟩,rfl⟩
  refine yW ?_;intros
  refine exl_pf rfl rfl rfl (zX (by kernel_rfl)) ((ce []).framed _ (List.Perm.refl _)) (fun hN=>And.intro rfl (And.intro rfl ⟨_,_,List.Sublist.refl _,savesC_c 191 b2 _ _,?_⟩)) ?_
  ·rintro _ rfl
   refine⟨[.int .i64 191],.cons (.ofCell rfl rfl (.p yP rfl)) .nil,?_⟩
   rw[hN]
   refine fin_drop (σ':=σ) (.cons _ (.cons _ (List.Sublist.refl _))) ?_
   exact zY .mk
  rintro _ _ ⟨_,⟨hv,rfl,rfl⟩,rfl⟩
  rw[hv]
  clear ce hv
  refine yW ?_;intros
  refine zS (σ3:=σ) .nil zG zJ ?_
  exact zY .mk
theorem lin_c(n lo hi:Int)(σ:List Ent):SCall prog 140 [.int .i64 n,.int .i64 lo,.int .i64 hi] σ (Is (.bool (decide (lo≤n)&&decide (n≤hi))) σ):=by
 refine zZ func140 rfl (by simp) ?_
 refine uZ ?_;and_intros<;>first|exact nl|intros
 all_goals
  refine zW .nil zG yY (zN ?_)
  simp[*]
theorem ordered_c(lo hi most:Int)(σ:List Ent):SCall prog 138 [.agg [.int .i64 lo,.int .i64 hi],.int .i64 most] σ (Is (.bool (decide (0≤lo)&&decide (lo≤hi)&&decide (hi≤most))) σ):=by
 refine zZ func138 rfl (by simp) ?_
 refine uZ ?_;and_intros<;>first|exact nl|intros
 all_goals
  refine zW .nil zG yY (zN ?_)
  simp[*]
theorem lshare_c(a:Rt2)(h:pQ a=true)(h2:0≤a.n∧a.n≤a.d)(σ:List Ent):SCall prog 203 [rtV a] σ (Is (.bool true) σ):=by
 refine zZ func203 rfl (by simp) ?_
 have c1:=checkR_c a
 rw[h]at c1
 have c2:=lin_c a.n 0 a.d
 rw[decide_eq_true h2.1,decide_eq_true h2.2]at c2
 repeat' first|(apply yQ;exact zD;rfl;rfl;refine zL ?_;first|exact c1 _|exact c2 _)|(refine xV ?_;and_intros<;>first|exact nl|intros)|cases ‹BV _ _›|exact wG|fail
 all_goals
  refine zW .nil zG yY (zN ?_)
  rfl
theorem shareB_iff{a b:Rt2}(h:shareB a b=true):pQ a=true∧pQ b=true∧0≤a.n∧a.n*b.d≤b.n*a.d∧b.n≤b.d:=by
 unfold shareB at h
 simp only[Bool.and_eq_true,decide_eq_true_eq]at h
 exact⟨h.1.1.1.1,h.1.1.1.2,h.1.1.2,h.1.2,h.2⟩
theorem shareB_in{a b:Rt2}(h:shareB a b=true):(0≤a.n∧a.n≤a.d)∧0≤b.n∧b.n≤b.d:=by
 obtain⟨h1,h2,h3,h4,h5⟩:=shareB_iff h
 obtain⟨⟨d1,_⟩,_⟩:=wC h1
 obtain⟨⟨d2,_⟩,_⟩:=wC h2
 have k1:0≤a.n*b.d:=Int.mul_nonneg h3 (by omega)
 refine⟨⟨h3,?_⟩,?_,h5⟩
 ·have k2:b.n*a.d≤b.d*a.d:=Int.mul_le_mul_of_nonneg_right h5 (by omega)
  have k3:a.n*b.d≤a.d*b.d:=by rw[Int.mul_comm a.d b.d];omega
  exact Int.le_of_mul_le_mul_right k3 (by omega)
 ·rcases Int.lt_or_le b.n 0 with hn|hn
  ·have k4:b.n*a.d<0:=Int.mul_neg_of_neg_of_pos hn (by omega)
   omega
  ·exact hn
theorem lshares_c(a b:Rt2)(h:shareB a b=true)(σ:List Ent):SCall prog 139 [seepV a b] σ (Is (.bool true) σ):=by
 refine zZ func139 rfl (by simp) ?_
 obtain⟨h1,h2,h3,h4,h5⟩:=shareB_iff h
 obtain⟨k1,k2⟩:=shareB_in h
 have c1:=lshare_c a h1 k1
 have c2:=lshare_c b h2 k2
 have c3:=cmpR_c a b
 rw[h1,h2]at c3
 simp only[Bool.and_self,if_true]at c3
 have hc:wQ (a.n*b.d) (b.n*a.d)≤0:=cmpI_le.2 h4
 generalize wQ (a.n*b.d) (b.n*a.d)=c at c3 hc
 clear h h1 h2 h3 h4 h5 k1 k2
 repeat' first|(apply yQ;exact zD;rfl;rfl;refine zL ?_;first|exact c1 _|exact c2 _|exact c3 _)|(refine xV ?_;and_intros<;>first|exact nl|intros)|cases ‹BV _ _›|exact wG|fail
 refine zW .nil zG yY (zN ?_)
 simpa using hc
structure RchOk(x:Rch):Prop where
 dl:1≤x.delay∧x.delay≤16
 cp:0≤x.siphon∧x.siphon≤x.cap∧x.cap≤1073741824
 bk:0≤x.siphon∧x.siphon≤x.bank∧x.bank≤1099511627776
 ev:0≤x.lo∧x.lo≤x.hi∧x.hi≤1073741824
 sh:shareB x.s0 x.s1=true
theorem RchOk.of{i:Int}{x:Rch}(h:reachB i x=true):RchOk x:=by
 unfold reachB at h
 simp only[Bool.and_eq_true]at h
 obtain⟨⟨⟨⟨⟨_,h1⟩,h2⟩,h3⟩,h4⟩,h5⟩:=h
 simp[vS]at h1 h2 h3 h4
 exact⟨by omega,by omega,by omega,by omega,h5⟩
theorem lvalid_c(x:Rch)(n:Int)(h:RchOk x)(σ:List Ent):SCall prog 90 [rchV x,.int .i64 n] σ (Is (.int .i64 (if 0≤n∧n≤1073741824 then 0 else 1)) σ):=by
 refine zZ func90 rfl (by simp) ?_
 have c1:=ordered_c x.lo x.hi 1073741824
 rw[decide_eq_true h.ev.1,decide_eq_true h.ev.2.1,decide_eq_true h.ev.2.2]at c1
 have c2:=lshares_c x.s0 x.s1 h.sh
 have c3:=lin_c n 0 1073741824
 clear h
 by_cases hn:0≤n∧n≤1073741824
 ·rw[if_pos hn]
  rw[decide_eq_true hn.1,decide_eq_true hn.2]at c3
  repeat' first|(apply yQ;exact zD;rfl;rfl;refine zL ?_;first|exact c1 _|exact c2 _|exact c3 _)|(refine xV ?_;and_intros<;>first|exact nl|intros)|cases ‹BV _ _›|exact wG|fail
  refine zW .nil zG zJ ?_
  rfl
 ·rw[if_neg hn]
  have hb:(decide (0≤n)&&decide (n≤1073741824))=false:=by rw[←Bool.decide_and];exact decide_eq_false hn
  rw[hb]at c3
  repeat' first|(apply yQ;exact zD;rfl;rfl;refine zL ?_;first|exact c1 _|exact c2 _|exact c3 _)|(refine xV ?_;and_intros<;>first|exact nl|intros)|cases ‹BV _ _›|exact wG|fail
  refine zW .nil zG zJ ?_
  rfl
theorem fdiv_small{m d:Int}(hm: -1152921504606846976≤m∧m≤1152921504606846976)(hd:1≤d): -1152921504606846976≤m.fdiv d∧m.fdiv d≤1152921504606846976:=by
 rw[Int.fdiv_eq_ediv_of_nonneg _ (by omega)]
 constructor
 ·refine Int.le_ediv_of_mul_le (by omega) ?_
  have:(-1152921504606846976:Int)*d≤ -1152921504606846976:=by omega
  omega
 ·refine Int.ediv_le_of_le_mul (by omega) ?_
  have:(1152921504606846976:Int)≤1152921504606846976*d:=by omega
  omega
def lostLo(x:Rch)(v:Int):Int:=if v=0 then 0 else min v (x.lo+(x.s0.n*v).fdiv x.s0.d)
def kZ(x:Rch)(v:Int):Int:=if v=0 then 0 else min v (x.hi+ -((-x.s1.n*v).fdiv x.s1.d))
theorem lost_c(x:Rch)(v:Int)(h:RchOk x)(hv:0≤v∧v≤1073741824)(σ:List Ent):SCall prog 91 [rchV x,.int .i64 v] σ (Is (.agg [.int .i64 (lostLo x v),.int .i64 (kZ x v)]) σ):=by
 refine zZ func91 rfl (by simp) ?_
 obtain⟨o1,o2,_⟩:=shareB_iff h.sh
 have e1:=h.ev
 unfold lostLo kZ
 by_cases h0:v=0
 ·rw[if_pos h0,if_pos h0]
  refine yW ?_;intros
  refine zW .nil zG zJ ?_
  rfl
 ·rw[if_neg h0,if_neg h0]
  have t1:=timesR_c x.s0 v o1 (by omega)
  have t2:=timesR_c x.s1 v o2 (by omega)
  obtain⟨⟨d1,d2,d3,d4⟩,_⟩:=wC o1
  obtain⟨⟨d5,d6,d7,d8⟩,_⟩:=wC o2
  have b1:=fdiv_small (wV (a:=x.s0.n) (b:=v) (by omega) (by omega)) d1
  have b2:=fdiv_small (wV (a:= -x.s1.n) (b:=v) (by omega) (by omega)) d5
  generalize (x.s0.n*v).fdiv x.s0.d=p at t1 b1 ⊢
  generalize (-x.s1.n*v).fdiv x.s1.d=q at t2 b2 ⊢
  clear h o1 o2
  repeat' first|(refine zB ?_;intros)|(refine xB ?_;intros)|(apply yQ;exact zD;rfl;rfl;refine zL ?_;first|exact t1 _|exact t2 _)|(refine yV ?_ ?_<;>(intro z;cases z with|_ h)<;>intro hp)|exact nl|fail
  refine zW .nil zG zJ ?_
  rfl
theorem lostHi_in(x:Rch)(v:Int)(h:RchOk x)(hv:0≤v∧v≤1073741824): -2305843009213693952≤kZ x v∧kZ x v≤v:=by
 unfold kZ
 obtain⟨_,o2,_⟩:=shareB_iff h.sh
 obtain⟨⟨d5,d6,d7,d8⟩,_⟩:=wC o2
 have b2:=fdiv_small (wV (a:= -x.s1.n) (b:=v) (by omega) (by omega)) d5
 have e1:=h.ev
 split<;>omega
theorem worst_c(x:Rch)(v:Int)(h:RchOk x)(σ:List Ent):SCall prog 39 [rchV x,.int .i64 v] σ (Is (.tup [.int .i64 (if 0≤v∧v≤1073741824 then v-kZ x v else 0),.int .i64 (if 0≤v∧v≤1073741824 then 0 else 1)]) σ):=by
 refine zZ func39 rfl (by simp) ?_
 have c1:=lvalid_c x v h
 by_cases hv:0≤v∧v≤1073741824
 ·rw[if_pos hv]at c1
  rw[if_pos hv,if_pos hv]
  have c2:=lost_c x v h hv
  have hb:=lostHi_in x v h hv
  clear h
  generalize kZ x v=L at c2 hb ⊢
  generalize lostLo x v=K at c2
  repeat' first|(apply yQ;exact zD;rfl;rfl;refine zL ?_;first|exact c1 _|exact c2 _)|(refine xV ?_;and_intros<;>first|exact nl|intros)|fail
  refine zW .nil zG zJ ?_
  rfl
 ·rw[if_neg hv]at c1
  rw[if_neg hv,if_neg hv]
  clear h
  repeat' first|(apply yQ;exact zD;rfl;rfl;refine zL ?_;exact c1 _)|(refine xV ?_;and_intros<;>first|exact nl|intros)|fail
  refine zW .nil zG zJ ?_
  rfl
theorem wrapU{n:Int}(h:0≤n∧n≤9223372036854775807):IntKind.u64.wrap n=n:=by
 simp only[IntKind.wrap,IntKind.bits,IntKind.signed]
 simp
 omega
theorem kB{P:Program}{ro:Option Nat}{env:Env}{σ:List Ent}{dst:Option Tmp}{ty:TypeId}{pos:String}{after:Array Edge}{guard:Option (Nat×Bool)}{s t:TypeId}{x:Operand}{k' ks:IntKind}{n:Int}(hs:P.underlying s=some (.int ks))(ht:P.underlying t=some (.int .u64))(hx:xP env x=some (.int k' n))(hn:0≤n∧n≤9223372036854775807):
  GOp P ro ⟨dst,.convert s t x,ty,pos,after,guard⟩ env σ (Is (.int .u64 n) σ):=
 zA _ (by intro c h;cases h) fun X M e w hg ho=>by
  have h1:=ho x (by simp[Op.operands]) _ hx
  simp only[VRel]at h1
  refine⟨.int .u64 n,by simp[VRel],?_⟩
  have hw:IntKind.u64.wrap n=n:=wrapU hn
  simp[execOp,h1,convert,Sem.run_bind,run_underlying hs,run_underlying ht,Conv.intToInt,hw]
theorem kC{P:Program}{ro:Option Nat}{env:Env}{σ:List Ent}{dst:Option Tmp}{ty:TypeId}{pos:String}{after:Array Edge}{guard:Option (Nat×Bool)}{x y:Operand}{t yt:TypeId}{k':IntKind}{a b:Int}{m:Nat}(hx:xP env x=some (.int .u64 a))(hy:xP env y=some (.int k' b))(hb:b=1)(ha:a=(m:Int)):
  GOp P ro ⟨dst,.binOp .shr t x y yt,ty,pos,after,guard⟩ env σ (Is (.int .u64 ((m/2:Nat):Int)) σ):=by
 subst ha hb
 refine g_bits (c:=((m:Int)).fdiv (2^min 1 64)) hx hy (.inr (.inr rfl)) ?_ ?_
 ·show (if (1:Int)<0 then none else some (((m:Int)).fdiv (2^min (1:Int).toNat 64)))=_
  rw[if_neg (by omega)];rfl
 ·rw[Int.fdiv_eq_ediv_of_nonneg _ (by decide)]
  show (m:Int)/2=_
  omega
theorem search_c(n i:Nat)(p:Nat→Bool)(hn:n≤4611686018427387904)(hi:i≤n)(h1: ∀k,k<i→p k=false)(h2: ∀k,i≤k→k<n→p k=true)(g:FuncId)(cap:List AV)(he:Enters prog g)(σ:List Ent)
  (hf: ∀k,k<n→SCall prog g (.int .i64 (k:Int)::cap) σ (Is (.bool (p k)) σ)):SCall prog 200 [.int .i64 n,.fn (.func g) [] cap] σ (Is (.int .i64 i) σ):=by
 refine zZ func200 rfl (by simp) ?_
 refine yW ?_;intros
 refine zU (fun(z:Nat×Nat)=>(⟨[(1,.fn (.func g) [] cap),(5,.int .i64 z.1),(6,.int .i64 z.2)],σ,[],f200.ntmps⟩:St)) (fun z=>z.1≤i∧i≤z.2∧z.2≤n) (fun z=>z.2-z.1) (0,n) (⟨Nat.zero_le _,hi,Nat.le_refl _⟩) (St.le_of zC yY) ?_
 intro z hI
 obtain⟨a,b⟩:=z
 obtain⟨hI1,hI2,hI3⟩:=hI
 dsimp only at hI1 hI2 hI3 ⊢
 by_cases hab:a<b
 ·obtain⟨m,hm⟩: ∃m,(a+b)/2=m:=⟨_,rfl⟩
  have hs:(a:Int)+(b:Int)=((a+b:Nat):Int):=by omega
  have hmb:a≤m∧m<b:=by omega
  have c:=hf m (by omega)
  cases hp:p m with
  |false=>
   have hmi:m<i:=by
    rcases Nat.lt_or_ge m i with h|h
    ·exact h
    ·rw[h2 m h (by omega)]at hp;cases hp
   rw[hp]at c
   clear hp hf h1 h2
   subst hm
   repeat' first|(refine zB ?_;intros)|(apply qX;exact zD;rfl;rfl;first|((apply kB;rfl;rfl;rfl;exact⟨by omega,by omega⟩))|((apply kC;rfl;rfl;rfl;exact hs))|((refine zQ rfl rfl he ?_;exact c)))|(refine xB ?_;intros)|(refine yV ?_ ?_<;>(intro z;cases z with|_ h)<;>intro hp)|exact nl|fail
   refine⟨((a+b)/2+1,b),⟨hmi,hI2,hI3⟩,by dsimp only;omega,?_⟩
   dsimp only
   exact(St.le_of zC zJ)
  |true=>
   have hmi:i≤m:=by
    rcases Nat.lt_or_ge m i with h|h
    ·rw[h1 m h]at hp;cases hp
    ·exact h
   rw[hp]at c
   clear hp hf h1 h2
   subst hm
   repeat' first|(refine zB ?_;intros)|(apply qX;exact zD;rfl;rfl;first|((apply kB;rfl;rfl;rfl;exact⟨by omega,by omega⟩))|((apply kC;rfl;rfl;rfl;exact hs))|((refine zQ rfl rfl he ?_;exact c)))|(refine xB ?_;intros)|(refine yV ?_ ?_<;>(intro z;cases z with|_ h)<;>intro hp)|exact nl|fail
   refine⟨(a,(a+b)/2),⟨hI1,hmi,by dsimp only;omega⟩,by dsimp only;omega,?_⟩
   dsimp only
   exact(St.le_of zC zJ)
 ·obtain rfl:a=i:=by omega
  clear hf h1 h2
  refine yW ?_;intros
  refine zW .nil zG zJ ?_
  rfl
theorem ceil_step{n d u v:Int}(hd:1≤d)(hn:n≤d)(huv:u≤v): -((-n*v).fdiv d)≤ -((-n*u).fdiv d)+(v-u):=by
 rw[Int.fdiv_eq_ediv_of_nonneg _ (by omega),Int.fdiv_eq_ediv_of_nonneg _ (by omega)]
 have h0:n*(v-u)≤d*(v-u):=Int.mul_le_mul_of_nonneg_right hn (by omega)
 have e1:n*(v-u)=n*v-n*u:=Int.mul_sub ..
 have h1: -n*u+d*(-(v-u))≤ -n*v:=by
  rw[Int.neg_mul,Int.neg_mul,Int.mul_neg]
  omega
 have h2:=Int.ediv_le_ediv (show 0<d by omega) h1
 rw[Int.add_mul_ediv_left _ _ (by omega)]at h2
 omega
theorem ceil_nonneg{n d v:Int}(hd:1≤d)(hn:0≤n)(hv:0≤v):0≤ -((-n*v).fdiv d):=by
 rw[Int.fdiv_eq_ediv_of_nonneg _ (by omega)]
 have h1:0≤n*v:=Int.mul_nonneg hn hv
 have h2: -n*v≤0:=by rw[Int.neg_mul];omega
 have h3:=Int.ediv_le_ediv (show 0<d by omega) h2
 rw[Int.zero_ediv]at h3
 omega
def xR(x:Rch)(v:Int):Int:=v-kZ x v
theorem worstF_mono{x:Rch}(h:RchOk x){u v:Int}(hu:0≤u)(huv:u≤v):xR x u≤xR x v:=by
 obtain⟨_,o2,_⟩:=shareB_iff h.sh
 obtain⟨_,k1,k2⟩:=shareB_in h.sh
 obtain⟨⟨d5,_⟩,_⟩:=wC o2
 have s1:=ceil_step (n:=x.s1.n) d5 k2 huv
 have p1:=ceil_nonneg (v:=u) d5 k1 hu
 have p2:=ceil_nonneg (v:=v) d5 k1 (by omega)
 have e:=h.ev
 unfold xR kZ
 split<;>split<;>omega
theorem worstF_zero(x:Rch):xR x 0=0:=by unfold xR kZ;rw[if_pos rfl];rfl
theorem worstF_le{x:Rch}(h:RchOk x){v:Int}(hv:0≤v):0≤xR x v∧xR x v≤v:=by
 obtain⟨_,o2,_⟩:=shareB_iff h.sh
 obtain⟨_,k1,k2⟩:=shareB_in h.sh
 obtain⟨⟨d5,_⟩,_⟩:=wC o2
 have p2:=ceil_nonneg (v:=v) d5 k1 hv
 have e:=h.ev
 unfold xR kZ
 split<;>omega
theorem need1_c(x:Rch)(h:RchOk x)(v:Int)(hv:0≤v∧v≤1073741824){b:Nat}{σ:List Ent}(hm:Ent.cells b (rchC x) 108∈σ):SCall prog 132 [.int .i64 v,.ptr b 0] σ (Is (.int .i64 (xR x v)) σ):=by
 refine zZ func132 rfl (by simp) ?_
 have c:=lost_c x v h hv
 have hb:=lostHi_in x v h hv
 unfold xR
 clear h
 generalize kZ x v=L at c hb ⊢
 generalize lostLo x v=K at c
 repeat' first|(apply yQ;exact zD;rfl;rfl;refine zL ?_;exact c _)|(refine xV ?_;and_intros<;>first|exact nl|intros)|fail
 refine zW .nil zG zJ ?_
 rfl
theorem least1_c(v w:Int)(g:FuncId)(cap:List AV)(he:Enters prog g)(r:Int){bf bw:Nat}{σ:List Ent}(hm:Ent.cells bf [.fn (.func g) [] cap] 234∈σ)(hw:Ent.cells bw [.int .i64 w] 3∈σ)
  (hf: ∀σ',(∀e∈σ,e∈σ')→SCall prog g (.int .i64 v::cap) σ' (Is (.int .i64 r) σ')):SCall prog 201 [.int .i64 v,.ptr bf 0,.ptr bw 0] σ (Is (.bool (decide (r>w))) σ):=by
 refine zZ func201 rfl (by simp) ?_
 repeat' first|(refine zB ?_;intros)|(apply zwI;exact zD;rfl;rfl;intro σ' hl;(refine zQ rfl rfl he ?_;exact hf _ (fun e hx=>hl _ trivial hx)))|refine zTd ?_|cases ‹BV _ _›|fail
 refine zW .nil zG yY (zN ?_)
 rfl
end Go.Proofs.YtaoaafdommlhcaaGreat
