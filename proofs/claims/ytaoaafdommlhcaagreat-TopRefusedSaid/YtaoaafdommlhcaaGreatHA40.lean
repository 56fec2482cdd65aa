/- Parts of the proof that belong together: Kd Ke Kf. -/
import Derived.Test.YtaoaafdommlhcaaGreatHA07
import Derived.Test.YtaoaafdommlhcaaGreatHA17
import Derived.Test.YtaoaafdommlhcaaGreatHA22
import Derived.Test.YtaoaafdommlhcaaGreatHA26
import Derived.Test.YtaoaafdommlhcaaGreatHA39
set_option maxRecDepth 10000
set_option maxHeartbeats 8000000
set_option linter.unusedSimpArgs false
set_option linter.unusedVariables false
set_option autoImplicit false
open Go.Proofs.Tryz
namespace Go.Proofs.YtaoaafdommlhcaaGreat
open Go.WideMaps
def dutyW(d:Dis)(x:Dty):Bool:=inW x.farm 0 (d.F.length-1)&&inW x.reach 0 (d.R.length-1)&&inW x.due 0 d.hours
def headW(d:Dis):Bool:=inW d.hours 1 4096&&inW d.start 0 d.cap&&decide (d.cap≤1099511627776)
def validW(d:Dis):Bool:=headW d&&reachesW d.R&&(d.C.all cropW&&d.F.all (farmW d))&&d.G.all (rightW d)&&d.D.all (dutyW d)
theorem valid19_r(d:Dis)(hR:d.R.length≤100000)(hC:d.C.length≤100000)(hF:d.F.length≤100000)(hG:d.G.length≤100000)(hD:d.D.length≤100000)(σ:List Ent):SCall prog 213 [disV d] σ (Is (.bool (validW d)) σ):=by
 refine zZ func213 rfl (by simp) ?_
 have hGm:(d.G.map rgtC).length=d.G.length:=List.length_map _
 have hDm:(d.D.map dtyC).length=d.D.length:=List.length_map _
 have hFm:(d.F.map frmC).length=d.F.length:=List.length_map _
 have hRm:(d.R.map rchC).length=d.R.length:=List.length_map _
 obtain⟨B,hB⟩: ∃B,validW d=B:=⟨_,rfl⟩
 rw[hB]
 unfold validW at hB
 have c1:=wE d.hours 1 4096
 have c2:=wE d.start 0 d.cap
 have c3:=reaches_r d.R hR
 have c4:=farms_r d hR hC hF
 generalize reachesW d.R=b3 at c3 hB
 generalize (d.C.all cropW&&d.F.all (farmW d))=b4 at c4 hB
 by_cases hH:1≤d.hours∧d.hours≤4096
 rotate_left
 ·have e:inW d.hours 1 4096=false:=by
   cases h:inW d.hours 1 4096 with
   |false=>rfl
   |true=>exact absurd (inW_t.1 h) hH
  unfold headW at hB
  rw[e]at c1 hB
  clear c2 c3 c4
  repeat' first|(refine zB ?_;intros)|(refine xB ?_;intros)|(apply yQ;exact zD;rfl;rfl;refine zL ?_;exact c1 _)|(refine yV ?_ ?_<;>(intro z;cases z with|_ h)<;>intro hp)|cases ‹BV _ _›|exact wG|fail
  refine zW .nil zG yY (zN ?_)
  simp[←hB]
 have e1:inW d.hours 1 4096=true:=inW_t.2 hH
 unfold headW at hB
 rw[e1]at c1 hB
 generalize inW d.start 0 d.cap=b2 at c2 hB
 have ec:decide (d.cap≤1099511627776)=!decide (1099511627776<d.cap):=by rw[←decide_not,decide_eq_decide];omega
 rw[ec]at hB
 clear ec
 cases b2 with
 |false=>
  clear c3 c4
  repeat' first|(refine zB ?_;intros)|(refine xB ?_;intros)|(apply yQ;exact zD;rfl;rfl;refine zL ?_;first|exact c1 _|exact c2 _)|(refine yV ?_ ?_<;>(intro z;cases z with|_ h)<;>intro hp)|cases ‹BV _ _›|exact wG|fail
  refine zW .nil zG yY (zN ?_)
  simp[←hB]
 |true=>
 by_cases hcap:1099511627776<d.cap
 ·rw[decide_eq_true hcap]at hB
  clear c3 c4
  repeat' first|(refine zB ?_;intros)|(refine xB ?_;intros)|(apply yQ;exact zD;rfl;rfl;refine zL ?_;first|exact c1 _|exact c2 _)|(refine yV ?_ ?_<;>(intro z;cases z with|_ h)<;>intro hp)|exact nl|cases ‹BV _ _›|exact wG|fail
  refine zW .nil zG yY (zN ?_)
  simp[←hB]
 rw[decide_eq_false hcap]at hB
 cases b3 with
 |false=>
  clear c4
  repeat' first|(refine zB ?_;intros)|(refine xB ?_;intros)|(apply yQ;exact zD;rfl;rfl;refine zL ?_;first|exact c1 _|exact c2 _|exact c3 _)|(refine yV ?_ ?_<;>(intro z;cases z with|_ h)<;>intro hp)|exact nl|cases ‹BV _ _›|exact wG|fail
  refine zW .nil zG yY (zN ?_)
  simp[←hB]
 |true=>
 cases b4 with
 |false=>
  repeat' first|(refine zB ?_;intros)|(refine xB ?_;intros)|(apply yQ;exact zD;rfl;rfl;refine zL ?_;first|exact c1 _|exact c2 _|exact c3 _|exact c4 _)|(refine yV ?_ ?_<;>(intro z;cases z with|_ h)<;>intro hp)|exact nl|cases ‹BV _ _›|exact wG|fail
  refine zW .nil zG yY (zN ?_)
  simp[←hB]
 |true=>
 simp only[Bool.true_and,Bool.not_false]at hB
 repeat' first|(show EX _ _ (Code.seq (Code.region 1 _ _) _) _ _;refine Stuck.out ?_)|(refine vW ?_;intros)|fail
 all_goals try refine Stuck.mk ?_
 rename Nat=>b1;revert b1
 intro b1
 repeat' first|(refine zB ?_;intros)|(refine xB ?_;intros)|(apply yQ;exact zD;rfl;rfl;refine zL ?_;first|exact c1 _|exact c2 _|exact c3 _|exact c4 _)|(refine yV ?_ ?_<;>(intro z;cases z with|_ h)<;>intro hp)|exact nl|cases ‹BV _ _›|exact wG|fail
 clear c1 c2 c3 c4 e1 hcap
 refine zU (fun(k:Nat)=>(⟨[(1,.ptr b1 0),(3,.int .i64 k)],.cells b1 (disC d) 31::σ,[],f213.ntmps⟩:St)) (fun k=>k≤d.G.length∧B=((d.G.drop k).all (rightW d)&&d.D.all (dutyW d))) (fun k=>d.G.length-k) 0 (⟨Nat.zero_le _,by rw[←hB];rfl⟩) (St.le_of zC yY) ?_
 intro k hI
 clear hB
 obtain⟨hI1,hI2⟩:=hI
 by_cases hk:k<d.G.length
 ·obtain⟨x,hx⟩:=zH hk
  have gx:(d.G.map rgtC)[k]?=some (rgtC x):=by rw[List.getElem?_map,hx];rfl
  rw[jT (p:=rightW d) hx]at hI2
  have cr:=right_r d hR hF hH x
  generalize rightW d x=b at cr hI2
  cases b with
  |true=>
   repeat' first|(refine zB ?_;intros)|(refine xB ?_;intros)|refine zTd ?_|(apply zwX;exact zD;rfl;rfl;intro σ' hl;refine zL ?_;exact cr _)|(refine yV ?_ ?_<;>(intro z;cases z with|_ h)<;>intro hp)|exact nl|cases ‹BV _ _›|exact wG|fail
   refine⟨k+1,⟨hk,by rw[hI2];simp⟩,by omega,St.le_of zC yY⟩
  |false=>
   repeat' first|(refine zB ?_;intros)|(refine xB ?_;intros)|refine zTd ?_|(apply zwX;exact zD;rfl;rfl;intro σ' hl;refine zL ?_;exact cr _)|(refine yV ?_ ?_<;>(intro z;cases z with|_ h)<;>intro hp)|exact nl|cases ‹BV _ _›|exact wG|fail
   refine zW .nil zG yY (zN ?_)
   simp[hI2]
 ·rw[List.drop_of_length_le (by omega)]at hI2
  refine yW ?_;intros
  clear hI1 hk
  refine zU (fun(k:Nat)=>(⟨[(1,.ptr b1 0),(4,.int .i64 k)],.cells b1 (disC d) 31::σ,[],f213.ntmps⟩:St)) (fun k=>k≤d.D.length∧B=(d.D.drop k).all (dutyW d)) (fun k=>d.D.length-k) 0 (⟨Nat.zero_le _,by rw[hI2];simp⟩) (St.le_of zC yY) ?_
  intro k hI
  clear hI2
  obtain⟨hI1,hI2⟩:=hI
  by_cases hk:k<d.D.length
  ·obtain⟨x,hx⟩:=zH hk
   have gx:(d.D.map dtyC)[k]?=some (dtyC x):=by rw[List.getElem?_map,hx];rfl
   rw[jT (p:=dutyW d) hx]at hI2
   have c1:=wE x.farm 0 (d.F.length-1)
   have c2:=wE x.reach 0 (d.R.length-1)
   have c3:=wE x.due 0 d.hours
   generalize hrest:(d.D.drop (k+1)).all (dutyW d)=rest at hI2
   unfold dutyW at hI2
   generalize inW x.farm 0 (d.F.length-1)=q1 at c1 hI2
   generalize inW x.reach 0 (d.R.length-1)=q2 at c2 hI2
   generalize inW x.due 0 d.hours=q3 at c3 hI2
   cases q1 with
   |false=>
    clear c2 c3
    repeat' first|(refine zB ?_;intros)|(refine xB ?_;intros)|(apply yQ;exact zD;rfl;rfl;refine zL ?_;exact c1 _)|(refine yV ?_ ?_<;>(intro z;cases z with|_ h)<;>intro hp)|exact nl|cases ‹BV _ _›|exact wG|fail
    refine zW .nil zG yY (zN ?_)
    simp[hI2]
   |true=>
   cases q2 with
   |false=>
    clear c3
    repeat' first|(refine zB ?_;intros)|(refine xB ?_;intros)|(apply yQ;exact zD;rfl;rfl;refine zL ?_;first|exact c1 _|exact c2 _)|(refine yV ?_ ?_<;>(intro z;cases z with|_ h)<;>intro hp)|exact nl|cases ‹BV _ _›|exact wG|fail
    refine zW .nil zG yY (zN ?_)
    simp[hI2]
   |true=>
   cases q3 with
   |false=>
    repeat' first|(refine zB ?_;intros)|(refine xB ?_;intros)|(apply yQ;exact zD;rfl;rfl;refine zL ?_;first|exact c1 _|exact c2 _|exact c3 _)|(refine yV ?_ ?_<;>(intro z;cases z with|_ h)<;>intro hp)|exact nl|cases ‹BV _ _›|exact wG|fail
    refine zW .nil zG yY (zN ?_)
    simp[hI2]
   |true=>
    repeat' first|(refine zB ?_;intros)|(refine xB ?_;intros)|(apply yQ;exact zD;rfl;rfl;refine zL ?_;first|exact c1 _|exact c2 _|exact c3 _)|(refine yV ?_ ?_<;>(intro z;cases z with|_ h)<;>intro hp)|exact nl|cases ‹BV _ _›|exact wG|fail
    refine⟨k+1,⟨hk,by rw[hrest,hI2];simp⟩,by omega,St.le_of zC yY⟩
  ·rw[List.drop_of_length_le (by omega)]at hI2
   refine yW ?_;intros
   all_goals
    refine zW .nil zG yY (zN ?_)
    rw[hI2]
    simp
def checkW(d:Dis):Int:=if fewB d=false then 2 else if validW d then 0 else 191
theorem check19_r(d:Dis)(hl:d.R.length≤9223372036854775807∧d.C.length≤9223372036854775807∧d.F.length≤9223372036854775807∧d.G.length≤9223372036854775807∧d.D.length≤9223372036854775807)(σ:List Ent):SCall prog 151 [disV d] σ (Is (.int .i64 (checkW d)) σ):=by
 refine zZ func151 rfl (by simp) ?_
 have hGm:(d.G.map rgtC).length=d.G.length:=List.length_map _
 have hDm:(d.D.map dtyC).length=d.D.length:=List.length_map _
 have hFm:(d.F.map frmC).length=d.F.length:=List.length_map _
 have hRm:(d.R.map rchC).length=d.R.length:=List.length_map _
 have hCm:(d.C.map crpC).length=d.C.length:=List.length_map _
 unfold checkW
 cases hf:fewB d with
 |true=>
  have hle:=yC hf
  have hv:=valid19_r d (by omega) (by omega) (by omega) (by omega) (by omega)
  rw[if_neg (by decide)]
  generalize validW d=b at hv ⊢
  cases b with
  |true=>
   repeat' first|(apply yQ;exact zD;rfl;rfl;refine zL ?_;exact hv _)|(refine xV ?_;and_intros<;>first|exact nl|intros)|cases ‹BV _ _›|exact wG|fail
   all_goals
    refine zW .nil zG zJ ?_
    rfl
  |false=>
   repeat' first|(apply yQ;exact zD;rfl;rfl;refine zL ?_;exact hv _)|(refine xV ?_;and_intros<;>first|exact nl|intros)|cases ‹BV _ _›|exact wG|fail
   all_goals
    refine zW .nil zG zJ ?_
    rfl
 |false=>
  rw[if_pos rfl]
  have hbad:64<d.R.length∨600<d.F.length∨32<d.C.length∨256<d.G.length∨256<d.D.length:=by
   unfold fewB at hf
   rw[Bool.eq_false_iff]at hf
   simp only[ne_eq,Bool.and_eq_true,decide_eq_true_eq]at hf
   omega
  clear hf
  refine uZ ?_;and_intros<;>first|exact nl|intros
  all_goals first
   |(exfalso;omega)
   |(
    refine zW .nil zG zJ ?_
    rfl)
theorem inW_idx{i:Int}{n:Nat}(h:inW i 0 (n-1)=true):idxB i n=true:=by
 obtain⟨h1,h2⟩:=inW_t.1 h
 unfold idxB
 simp only[Bool.and_eq_true,decide_eq_true_eq]
 omega
theorem risB3{a b c:Int}:vS [a,b,c]=true↔a≤b∧b≤c:=by simp[vS]
theorem risB4{a b c e:Int}:vS [a,b,c,e]=true↔a≤b∧b≤c∧c≤e:=by simp[vS]
theorem allI_imp{α:Type}{p q:Int→α→Bool}: ∀{l:List α} {i:Nat},(∀(k:Nat) x,p k x=true→q k x=true)→allI p i l=true→allI q i l=true
 |[],_,_,_=>rfl
 |x::l,i,h,ha=>by
  simp only[allI,Bool.and_eq_true]at ha ⊢
  exact⟨h i x ha.1,allI_imp h ha.2⟩
theorem all_imp{α:Type}{p q:α→Bool}{l:List α}(h: ∀x,p x=true→q x=true)(ha:l.all p=true):l.all q=true:=by
 rw[List.all_eq_true]at ha ⊢
 exact fun x hx=>h x (ha x hx)
theorem validW_B{d:Dis}(h:validW d=true):yD d=true:=by
 unfold validW headW reachesW at h
 simp only[Bool.and_eq_true,decide_eq_true_eq]at h
 obtain⟨⟨⟨⟨⟨⟨h1,h2⟩,h3⟩,h4,h5⟩,h6,h7⟩,h8⟩,h9⟩:=h
 obtain⟨a1,a2⟩:=inW_t.1 h1
 obtain⟨a3,a4⟩:=inW_t.1 h2
 unfold yD tY
 simp only[Bool.and_eq_true,decide_eq_true_eq]
 refine⟨⟨⟨⟨⟨⟨⟨risB3.2 ⟨a1,a2⟩,risB4.2 ⟨a3,a4,h3⟩⟩,h5⟩,allI_imp (fun k x hx=>?_) h4⟩,all_imp (fun x hx=>?_) h6⟩,all_imp (fun x hx=>?_) h7⟩,all_imp (fun x hx=>?_) h8⟩,all_imp (fun x hx=>?_) h9⟩
 ·simp only[Bool.and_eq_true]at hx
  obtain⟨k1,k2⟩:=hx
  unfold reachW at k2
  simp only[Bool.and_eq_true,decide_eq_true_eq,inW_t]at k2
  obtain⟨⟨⟨⟨⟨⟨q1,q2⟩,q3⟩,q4⟩,q5⟩,q6⟩,q7⟩:=k2
  unfold reachB
  simp only[Bool.and_eq_true,risB3,risB4]
  refine⟨⟨⟨⟨⟨?_,q1⟩,?_⟩,?_⟩,?_⟩,q7⟩
  ·unfold upW at k1
   by_cases e:(k:Int)=0
   ·rw[if_pos e]at k1
    rw[if_neg (by omega)]
    exact k1
   ·rw[if_neg e]at k1
    rw[if_pos (by omega)]
    obtain⟨u1,u2⟩:=inW_t.1 k1
    unfold idxB
    simp only[Bool.and_eq_true,decide_eq_true_eq]
    omega
  ·omega
  ·omega
  ·omega
 ·unfold cropW at hx
  unfold cropB
  exact risB3.2 (inW_t.1 hx)
 ·unfold farmW at hx
  simp only[Bool.and_eq_true]at hx
  obtain⟨⟨q1,q2⟩,q3⟩:=hx
  unfold farmB
  simp only[Bool.and_eq_true]
  refine⟨⟨?_,inW_idx q1⟩,risB3.2 (inW_t.1 q2)⟩
  have:=inW_t.1 q2
  by_cases e:x.area=0
  ·rw[if_pos e]at q3
   rw[if_neg (by omega)]
   exact q3
  ·rw[if_neg e]at q3
   rw[if_pos (by omega)]
   exact inW_idx q3
 ·unfold rightW at hx
  simp only[Bool.and_eq_true,decide_eq_true_eq]at hx
  obtain⟨⟨⟨⟨q1,q2⟩,q3⟩,q4⟩,q5⟩:=hx
  have:=inW_t.1 q3
  unfold qC
  simp only[Bool.and_eq_true]
  refine⟨⟨⟨inW_idx q1,inW_idx q2⟩,risB4.2 (by omega)⟩,?_⟩
  by_cases e1:x.kind=1
  ·rw[if_pos e1]at q5 ⊢
   simp only[Bool.and_eq_true,decide_eq_true_eq,inW_t]at q5
   simp only[Bool.and_eq_true,decide_eq_true_eq,risB3,risB4]
   omega
  rw[if_neg e1]at q5 ⊢
  by_cases e2:x.kind=2
  ·rw[if_pos e2]at q5 ⊢
   simp only[Bool.and_eq_true,decide_eq_true_eq]at q5 ⊢
   omega
  rw[if_neg e2]at q5 ⊢
  by_cases e3:x.kind=3
  ·rw[if_pos e3]at q5 ⊢
   exact q5
  rw[if_neg e3]at q5
  cases q5
 ·unfold dutyW at hx
  simp only[Bool.and_eq_true]at hx
  obtain⟨⟨q1,q2⟩,q3⟩:=hx
  unfold dutyB
  simp only[Bool.and_eq_true]
  exact⟨⟨inW_idx q1,inW_idx q2⟩,risB3.2 (inW_t.1 q3)⟩
theorem checkW_zero{d:Dis}(h:checkW d=0):yZ d=0:=by
 unfold checkW at h
 unfold yZ
 by_cases h1:fewB d=false
 ·rw[if_pos h1]at h;cases h
 rw[if_neg h1]at h ⊢
 by_cases h2:validW d=true
 ·rw[if_pos (validW_B h2)]
 ·rw[if_neg h2]at h;cases h
def few19(d:Dis):Bool:=decide ((d.R.length:Int)≤100)&&decide ((d.F.length:Int)≤700)&&decide ((d.C.length:Int)≤100)&&decide ((d.G.length:Int)≤300)&&decide ((d.D.length:Int)≤300)&&decide ((d.W.length:Int)≤100)
theorem few19_r(d:Dis)(σ:List Ent):SCall prog 99 [disV d] σ (Is (.bool (few19 d)) σ):=by
 refine zZ func99 rfl (by simp) ?_
 unfold few19
 refine uZ ?_;and_intros<;>first|exact nl|intros
 all_goals
  refine zW .nil zG yY (zN ?_)
  simp[*]
open Go.WideMaps
def zeroB1(x:Ded):Bool:=decide ((x.parts.length:Int)=0)&&decide (x.of=0)
theorem zero1_r(x:Ded)(σ:List Ent):SCall prog 214 [dedV x,.bool true,.bool true,.bool true,.bool false,.bool false] σ (Is (.bool (zeroB1 x)) σ):=by
 refine zZ func214 rfl (by simp) ?_
 unfold zeroB1
 have hpm:(x.parts.map prtC).length=x.parts.length:=List.length_map _
 refine uZ ?_;and_intros<;>first|exact nl|intros
 all_goals
  refine zW .nil zG yY (zN ?_)
  first|(simp[*];done)|(simp[*];rfl)|(simp[*,-List.length_eq_zero_iff,-Int.natCast_eq_zero];done)|(rw[Bool.eq_iff_iff];simp;omega)|(simp_all;done)
def zeroB2(x:Ded):Bool:=decide (x.to=0)&&decide (x.of=0)
theorem zero2_r(x:Ded)(σ:List Ent):SCall prog 214 [dedV x,.bool true,.bool true,.bool false,.bool true,.bool false] σ (Is (.bool (zeroB2 x)) σ):=by
 refine zZ func214 rfl (by simp) ?_
 unfold zeroB2
 have hpm:(x.parts.map prtC).length=x.parts.length:=List.length_map _
 refine uZ ?_;and_intros<;>first|exact nl|intros
 all_goals
  refine zW .nil zG yY (zN ?_)
  first|(simp[*];done)|(simp[*];rfl)|(simp[*,-List.length_eq_zero_iff,-Int.natCast_eq_zero];done)|(rw[Bool.eq_iff_iff];simp;omega)|(simp_all;done)
def zeroB3(x:Ded):Bool:=decide (x.to=0)&&decide ((x.parts.length:Int)=0)&&decide (x.of=0)
theorem zero3_r(x:Ded)(σ:List Ent):SCall prog 214 [dedV x,.bool true,.bool true,.bool false,.bool false,.bool false] σ (Is (.bool (zeroB3 x)) σ):=by
 refine zZ func214 rfl (by simp) ?_
 unfold zeroB3
 have hpm:(x.parts.map prtC).length=x.parts.length:=List.length_map _
 refine uZ ?_;and_intros<;>first|exact nl|intros
 all_goals
  refine zW .nil zG yY (zN ?_)
  first|(simp[*];done)|(simp[*];rfl)|(simp[*,-List.length_eq_zero_iff,-Int.natCast_eq_zero];done)|(rw[Bool.eq_iff_iff];simp;omega)|(simp_all;done)
def zeroB4(x:Ded):Bool:=decide (x.right=0)&&decide (x.frm=0)&&decide (x.to=0)&&decide ((x.parts.length:Int)=0)
theorem zero4_r(x:Ded)(σ:List Ent):SCall prog 214 [dedV x,.bool false,.bool false,.bool false,.bool false,.bool true] σ (Is (.bool (zeroB4 x)) σ):=by
 refine zZ func214 rfl (by simp) ?_
 unfold zeroB4
 have hpm:(x.parts.map prtC).length=x.parts.length:=List.length_map _
 refine uZ ?_;and_intros<;>first|exact nl|intros
 all_goals
  refine zW .nil zG yY (zN ?_)
  first|(simp[*];done)|(simp[*];rfl)|(simp[*,-List.length_eq_zero_iff,-Int.natCast_eq_zero];done)|(rw[Bool.eq_iff_iff];simp;omega)|(simp_all;done)
theorem holder_r(d:Dis)(hF:d.F.length≤600)(hG:d.G.length≤256)(x:Ded)(σ:List Ent):SCall prog 215 [disV d,dedV x] σ (Is (.bool (pZ d x)) σ):=by
 refine zZ func215 rfl (by simp) ?_
 have hGm:(d.G.map rgtC).length=d.G.length:=List.length_map _
 have hFm:(d.F.map frmC).length=d.F.length:=List.length_map _
 unfold pZ inB
 by_cases h1:0≤x.right
 rotate_left
 ·rw[decide_eq_false h1]
  refine yW ?_;intros
  all_goals
   refine zW .nil zG yY (zN ?_)
   simp
 by_cases h2:x.right<d.G.length
 rotate_left
 ·rw[decide_eq_false (show ¬ x.right≤d.G.length-1 by omega)]
  refine yW ?_;intros
  all_goals
   refine zW .nil zG yY (zN ?_)
   simp
 rw[decide_eq_true h1,decide_eq_true (show x.right≤d.G.length-1 by omega)]
 obtain⟨r,hr⟩: ∃r:Nat,x.right=r:=⟨x.right.toNat,by omega⟩
 obtain⟨g,hg⟩:=zH (show r<d.G.length by omega)
 have gg:(d.G.map rgtC)[r]?=some (rgtC g):=by rw[List.getElem?_map,hg];rfl
 have e:decide (x.frm≤d.F.length-1)=decide (x.frm<d.F.length):=by rw[decide_eq_decide];omega
 rw[e,hr,Int.toNat_natCast,hg]
 clear e
 obtain⟨no,kd,rg,fm,to,ps,of,at_,kn⟩:=x
 dsimp only at h1 h2 hr ⊢
 subst hr
 refine uZ ?_;and_intros<;>first|exact nl|intros
 all_goals
  refine zW .nil zG yY (zN ?_)
  first|(simp[*];done)|(simp[*];rfl)|(simp[*,-List.length_eq_zero_iff,-Int.natCast_eq_zero];done)|(rw[Bool.eq_iff_iff];simp;omega)|(simp_all;done)
def nameB(n:Int)(y:Ded):Bool:=decide (y.no=n)&&decide (y.kind≠4)
theorem named_r(l:List Ded)(hl:l.length≤512)(n:Int)(σ:List Ent):SCall prog 217 [deds l,.int .i64 n] σ (Is (.int .i64 (yG (nameB n) l 0)) σ):=by
 refine zZ func217 rfl (by simp) ?_
 have hlm:(l.map dedC).length=l.length:=List.length_map _
 refine yW ?_;intros
 refine zU (fun(k:Nat)=>(⟨[(0,deds l),(1,.int .i64 n),(5,.int .i64 k)],σ,[],f217.ntmps⟩:St)) (fun k=>k≤l.length∧yG (nameB n) l 0=yG (nameB n) (l.drop k) k) (fun k=>l.length-k) 0 (⟨Nat.zero_le _,rfl⟩) (St.le_of zC yY) ?_
 intro k hI
 obtain⟨hI1,hI2⟩:=hI
 by_cases hk:k<l.length
 ·obtain⟨x,hx⟩:=zH hk
  have gx:=tW hx
  rw[pU (nameB n) hx]at hI2
  by_cases h1:x.no=n
  ·by_cases h2:x.kind=4
   ·rw[if_neg (show ¬ nameB n x=true by unfold nameB;simp[h2])]at hI2
    refine yW ?_;intros
    refine⟨k+1,⟨hk,hI2⟩,by omega,St.le_of zC yY⟩
   ·rw[if_pos (show nameB n x=true by unfold nameB;simp[h1,h2])]at hI2
    rw[hI2]
    refine yW ?_;intros
    refine zW .nil zG zJ ?_
    rfl
  ·rw[if_neg (show ¬ nameB n x=true by unfold nameB;simp[h1])]at hI2
   refine yW ?_;intros
   refine⟨k+1,⟨hk,hI2⟩,by omega,St.le_of zC yY⟩
 ·rw[List.drop_of_length_le (by omega)]at hI2
  rw[hI2]
  refine yW ?_;intros
  refine zW .nil zG zJ ?_
  rfl
theorem makeR_ok{N D:Int}(hD:0<D)(h:(makeR N D).2=0):pQ (makeR N D).1=true:=by
 unfold makeR at h ⊢
 split at h
 ·cases h
 ·rename_i hm
  rw[if_neg hm]
  have hg0:0<Nat.gcd N.natAbs D.natAbs:=Nat.gcd_pos_of_pos_right _ (by omega)
  have hc:=Nat.coprime_div_gcd_div_gcd hg0
  have hd:0<D.natAbs/Nat.gcd N.natAbs D.natAbs:=Nat.div_pos (Nat.le_of_dvd (by omega) (Nat.gcd_dvd_right _ _)) hg0
  generalize N.natAbs/Nat.gcd N.natAbs D.natAbs=a at hm hc ⊢
  generalize D.natAbs/Nat.gcd N.natAbs D.natAbs=b at hm hc hd ⊢
  unfold pQ
  dsimp only
  rw[Bool.and_eq_true,decide_eq_true_eq,decide_eq_true_eq]
  have e:Nat.gcd (if N<0 then-((a:Nat):Int)else ((a:Nat):Int)).natAbs ((b:Nat):Int).toNat=Nat.gcd a b:=by
   rw[Int.toNat_natCast]
   split<;>simp
  rw[e]
  refine⟨?_,hc⟩
  split<;>omega
theorem addR_ok{s p:Rt2}(h:(xL s p).2=0):pQ (xL s p).1=true:=by
 unfold xL at h ⊢
 cases hs:pQ s&&pQ p with
 |false=>rw[hs]at h;simp at h
 |true=>
  rw[hs,if_pos rfl]at h
  rw[if_pos rfl]
  simp only[Bool.and_eq_true]at hs
  obtain⟨⟨d1,_⟩,_⟩:=wC hs.1
  obtain⟨⟨d2,_⟩,_⟩:=wC hs.2
  exact makeR_ok (Int.mul_pos (by omega) (by omega)) h
theorem one_of_eq{s:Rt2}(h:pQ s=true)(e:s.n=s.d):s=⟨1,1⟩:=by
 obtain⟨⟨h1,_⟩,h2⟩:=wC h
 obtain⟨n,d⟩:=s
 dsimp only at e h1 h2
 subst e
 rw[show n.natAbs=n.toNat by omega,Nat.gcd_self]at h2
 have:n=1:=by omega
 subst this
 rfl
def seenP(l:List Prt):Int→Bool:=fun q=>l.any fun p=>p.farm==q
theorem seenP_snoc{l:List Prt}{k:Nat}{p:Prt}(h:l[k]?=some p):seenP (l.take (k+1))=fun q=>seenP (l.take k) q||q==p.farm:=by
 funext q
 unfold seenP
 rw[List.take_add_one,h,List.any_append]
 simp only[Option.toList_some,List.any_cons,List.any_nil,Bool.or_false]
 congr 1
 rw[Bool.eq_iff_iff,beq_iff_eq,beq_iff_eq]
 exact⟨fun h=>h.symm,fun h=>h.symm⟩
theorem parts_r(d:Dis)(hF:d.F.length≤600)(l:List Prt)(hl:l.length≤100000)(σ:List Ent):SCall prog 216 [disV d,prts l] σ (Is (.bool (kQ xL d l)) σ):=by
 refine zZ func216 rfl (by simp) ?_
 have hlm:(l.map prtC).length=l.length:=List.length_map _
 have hFm:(d.F.map frmC).length=d.F.length:=List.length_map _
 by_cases h0:1≤l.length∧l.length≤16
 rotate_left
 ·have e2:kQ xL d l=false:=by
   unfold kQ
   have:inB l.length 1 16=false:=by
    unfold inB
    rw[Bool.eq_false_iff]
    simp only[ne_eq,Bool.and_eq_true,decide_eq_true_eq]
    omega
   split
   ·rw[this];rfl
   ·rfl
  rw[e2]
  clear e2
  by_cases h1:l.length<1
  ·refine yW ?_;intros
   all_goals
    refine zW .nil zG zJ ?_
    rfl
  ·have h2:16<l.length:=by omega
   refine yW ?_;intros
   all_goals
    refine zW .nil zG zJ ?_
    rfl
 have hwB:kQ xL d l=(match qS xL d.F.length l (fun _=>false) ⟨0,1⟩ with|some s=>decide (s=⟨1,1⟩)|none=>false):=by
  unfold kQ
  have:inB l.length 1 16=true:=by
   unfold inB
   rw[Bool.and_eq_true,decide_eq_true_eq,decide_eq_true_eq]
   omega
  split
  ·rename_i s h
   rw[h,this,Bool.true_and]
  ·rename_i h
   rw[h]
 rw[hwB]
 clear hwB
 repeat' first|(show EX _ _ (Code.seq (Code.region 1 _ _) _) _ _;refine Stuck.out ?_)|(refine vW ?_;intros)|fail
 all_goals try refine Stuck.mk ?_
 rename Nat=>b2;revert b2
 intro b2
 repeat' first|(show EX _ _ (Code.seq (Code.region 4 _ _) _) _ _;refine Stuck.out ?_)|(refine vW ?_;intros)|(refine yV ?_ ?_<;>(intro z;cases z with|_ h)<;>intro hp)|exact nl|fail
 all_goals try refine Stuck.mk ?_
 rename Nat=>b5;revert b5
 intro b5
 refine yW ?_;intros
 refine zU (fun(z:Nat×Rt2)=>(⟨[(1,prts l),(2,.ptr b2 0),(5,.ptr b5 0),(6,.int .i64 z.1)],.cells b5 (rtC z.2) 105::.cells b2 (disC d) 31::σ,[],Tryz.f216.ntmps⟩:St)) (fun z=>z.1≤l.length∧pQ z.2=true∧qS xL d.F.length l (fun _=>false) ⟨0,1⟩=qS xL d.F.length (l.drop z.1) (seenP (l.take z.1)) z.2) (fun z=>l.length-z.1) (0,⟨0,1⟩) (⟨Nat.zero_le _,by decide,rfl⟩) (St.le_of zC yY) ?_
 intro z hI
 obtain⟨k,s⟩:=z
 obtain⟨hI1,hI2,hI3⟩:=hI
 dsimp only at hI1 hI2 hI3 ⊢
 by_cases hk:k<l.length
 ·obtain⟨p,hpp⟩:=zH hk
  have gp:=prt_get hpp
  have cv:=valid_r p.share
  have ca:=addR_r s p.share
  have hbad:pQ p.share=false∨p.share.n≤0∨¬ (0≤p.farm∧p.farm<d.F.length)∨seenP (l.take k) p.farm=true→qS xL d.F.length l (fun _=>false) ⟨0,1⟩=none:=fun h=>by
   rw[hI3,wZ hpp]
   unfold qS
   by_cases q:inB p.farm 0 (d.F.length-1)=false∨seenP (l.take k) p.farm=true∨p.share.n≤0
   ·rw[if_pos q]
   ·rw[if_neg q,if_pos]
    rcases h with h|h|h|h
    ·unfold xL
     rw[h,Bool.and_false,if_neg (by decide)]
     decide
    ·exact absurd (.inr (.inr h)) q
    ·refine absurd (.inl ?_) q
     unfold inB
     rw[Bool.eq_false_iff]
     simp only[ne_eq,Bool.and_eq_true,decide_eq_true_eq]
     omega
    ·exact absurd (.inr (.inl h)) q
  cases ho:pQ p.share with
  |false=>
   rw[ho]at cv
   rw[hbad (.inl ho)]
   clear ca hI3 hbad
   repeat' first|(apply yQ;exact zD;rfl;rfl;refine zL ?_;exact cv _)|(refine xV ?_;and_intros<;>first|exact nl|intros)|cases ‹BV _ _›|exact wG|fail
   all_goals
    refine zW .nil zG zJ ?_
    rfl
  |true=>
  rw[ho]at cv
  by_cases hn:p.share.n≤0
  ·rw[hbad (.inr (.inl hn))]
   clear ca hI3 hbad
   repeat' first|(apply yQ;exact zD;rfl;rfl;refine zL ?_;exact cv _)|(refine xV ?_;and_intros<;>first|exact nl|intros)|cases ‹BV _ _›|exact wG|fail
   all_goals
    refine zW .nil zG zJ ?_
    rfl
  by_cases hf:0≤p.farm∧p.farm<d.F.length
  rotate_left
  ·rw[hbad (.inr (.inr (.inl hf)))]
   clear ca hI3 hbad
   refine uZ ?_;and_intros<;>first|exact nl|intros
   all_goals
    refine zW .nil zG zJ ?_
    rfl
  repeat' first|(show EX _ _ (Code.seq (Code.region 10 _ _) _) _ _;refine Stuck.out ?_)|(refine vW ?_;intros)|(apply yQ;exact zD;rfl;rfl;refine zL ?_;exact cv _)|(refine yV ?_ ?_<;>(intro z;cases z with|_ h)<;>intro hp)|exact nl|cases ‹BV _ _›|exact wG|fail
  all_goals try refine Stuck.mk ?_
  rename Nat=>b7;revert b7
  intro b7
  refine yW ?_;intros
  clear cv
  refine zU (fun(j:Nat)=>(⟨[(1,prts l),(2,.ptr b2 0),(5,.ptr b5 0),(6,.int .i64 k),(7,.ptr b7 0),(8,.int .i64 j)],.cells b7 (prtC p) 307::.cells b5 (rtC s) 105::.cells b2 (disC d) 31::σ,[],Tryz.f216.ntmps⟩:St)) (fun j=>j≤k∧seenP (l.take j) p.farm=false) (fun j=>k-j) 0 (⟨Nat.zero_le _,rfl⟩) (St.le_of zC yY) ?_
  intro j hI
  obtain⟨hJ1,hJ2⟩:=hI
  by_cases hj:j<k
  ·obtain⟨q,hq⟩:=zH (show j<l.length by omega)
   have gq:=prt_get hq
   by_cases he:q.farm=p.farm
   ·rw[hbad (.inr (.inr (.inr (by
     unfold seenP
     rw[List.any_eq_true]
     exact⟨q,List.mem_of_getElem? (i:=j) (by rw[List.getElem?_take,if_pos hj];exact hq),by simp[he]⟩))))]
    clear ca hI3 hbad
    refine yW ?_;intros
    all_goals
     refine zW .nil zG zJ ?_
     rfl
   ·clear ca hI3 hbad
    refine yW ?_;intros
    refine⟨j+1,⟨hj,by rw[seenP_snoc hq];simp[hJ2];exact fun e=>he e.symm⟩,by omega,St.le_of zC yY⟩
  ·obtain rfl:j=k:=by omega
   have hst:qS xL d.F.length (l.drop j) (seenP (l.take j)) s=if (xL s p.share).2≠0 then none else qS xL d.F.length (l.drop (j+1)) (seenP (l.take (j+1))) (xL s p.share).1:=by
    rw[wZ hpp]
    conv=>lhs;unfold qS
    rw[if_neg (fun h=>by
     rcases h with h|h|h
     ·unfold inB at h
      rw[decide_eq_true (by omega),decide_eq_true (by omega)]at h
      cases h
     ·rw[hJ2]at h;cases h
     ·exact hn h),seenP_snoc hpp]
   rw[hst]at hI3
   clear hbad
   have hok:=fun h=>addR_ok (s:=s) (p:=p.share) h
   generalize xL s p.share=q at ca hI3 hok
   obtain⟨s2,e⟩:=q
   dsimp only at ca hI3 hok
   clear hst
   by_cases he:e=0
   ·rw[if_neg (fun h=>h he)]at hI3
    have hok2:=hok he
    clear hok
    subst he
    repeat' first|(apply yQ;exact zD;rfl;rfl;refine zL ?_;exact ca _)|(refine xV ?_;and_intros<;>first|exact nl|intros)|fail
    refine⟨(j+1,s2),⟨hk,hok2,hI3⟩,by omega,St.le_of zC yY⟩
   ·rw[if_pos he]at hI3
    rw[hI3]
    clear hI3
    repeat' first|(apply yQ;exact zD;rfl;rfl;refine zL ?_;exact ca _)|(refine xV ?_;and_intros<;>first|exact nl|intros)|fail
    all_goals
     refine zW .nil zG zJ ?_
     rfl
 ·rw[List.drop_of_length_le (by omega)]at hI3
  rw[hI3]
  unfold qS
  dsimp only
  have hw:decide (s=⟨1,1⟩)=decide (s.n=s.d):=by
   rw[decide_eq_decide]
   exact⟨fun e=>by rw[e],one_of_eq hI2⟩
  rw[hw]
  clear hI3 hw
  refine yW ?_;intros
  all_goals
   refine zW .nil zG yY (zN ?_)
   first|rfl|(simp[*];done)
open Go.WideMaps
def voidR(l:List Ded)(x:Ded):Bool:=zeroB4 x&&decide (0≤yG (nameB x.of) l 0)&&(match l[(yG (nameB x.of) l 0).toNat]? with|some y=>decide (y.known≤x.known)|none=>false)
def rightR(d:Dis)(l:List Ded)(x:Ded):Bool:=inB x.no 0 1048576&&inB x.at_ 0 4096&&inB x.known 0 1048576&&
 (if x.kind=1 then zeroB1 x&&pZ d x&&decide (0≤x.to)&&decide (x.to<d.F.length)&&decide (x.to≠x.frm)
 else if x.kind=2 then zeroB2 x&&pZ d x&&kQ xL d x.parts
 else if x.kind=3 then zeroB3 x&&pZ d x
 else if x.kind=4 then voidR l x else false)
theorem idx_lt{α:Type}(p:α→Bool): ∀(l:List α) (k:Nat),yG p l k<(k+l.length:Nat)
 |[],k=>by unfold yG;omega
 |x::l,k=>by
  unfold yG
  have:=idx_lt p l (k+1)
  rw[List.length_cons]
  split<;>omega
theorem right25_r(d:Dis)(hF:d.F.length≤600)(hG:d.G.length≤256)(l:List Ded)(hl:l.length≤512)(x:Ded)(hx:x.parts.length≤16)(σ:List Ent):SCall prog 153 [disV d,deds l,dedV x] σ (Is (.bool (rightR d l x)) σ):=by
 refine zZ func153 rfl (by simp) ?_
 unfold rightR
 have hFm:(d.F.map frmC).length=d.F.length:=List.length_map _
 have hlm:(l.map dedC).length=l.length:=List.length_map _
 by_cases h1:(0≤x.no∧x.no≤1048576)∧(0≤x.at_∧x.at_≤4096)∧0≤x.known∧x.known≤1048576
 rotate_left
 ·have e:(inB x.no 0 1048576&&inB x.at_ 0 4096&&inB x.known 0 1048576)=false:=by
   rw[Bool.eq_false_iff]
   unfold inB
   simp only[ne_eq,Bool.and_eq_true,decide_eq_true_eq]
   omega
  rw[e,Bool.false_and]
  clear e
  refine uZ ?_;and_intros<;>first|exact nl|intros
  all_goals first
   |(exfalso;omega)
   |(
    refine zW .nil zG yY (zN ?_)
    first|rfl|(simp;done)|(simp[*];done))
 have e:(inB x.no 0 1048576&&inB x.at_ 0 4096&&inB x.known 0 1048576)=true:=by
  unfold inB
  simp only[Bool.and_eq_true,decide_eq_true_eq]
  omega
 rw[e,Bool.true_and]
 clear e
 obtain⟨⟨p1,p2⟩,⟨p3,p4⟩,p5,p6⟩:=h1
 by_cases k1:x.kind=1
 ·rw[if_pos k1]
  have c1:=zero1_r x
  have c2:=holder_r d hF hG x
  generalize zeroB1 x=b1 at c1 ⊢
  generalize pZ d x=b2 at c2 ⊢
  repeat' first|(apply yQ;exact zD;rfl;rfl;refine zL ?_;first|exact c1 _|exact c2 _)|(refine xV ?_;and_intros<;>first|exact nl|intros)|cases ‹BV _ _›|fail
  all_goals
   refine zW .nil zG yY (zN ?_)
   first|(simp[*];done)|(simp[*];rfl)
 rw[if_neg k1]
 by_cases k2:x.kind=2
 ·rw[if_pos k2]
  have c1:=zero2_r x
  have c2:=holder_r d hF hG x
  have c3:=parts_r d hF x.parts (by omega)
  generalize zeroB2 x=b1 at c1 ⊢
  generalize pZ d x=b2 at c2 ⊢
  generalize kQ xL d x.parts=b3 at c3 ⊢
  repeat' first|(apply yQ;exact zD;rfl;rfl;refine zL ?_;first|exact c1 _|exact c2 _|exact c3 _)|(refine xV ?_;and_intros<;>first|exact nl|intros)|cases ‹BV _ _›|fail
  all_goals
   refine zW .nil zG yY (zN ?_)
   first|(simp[*];done)|(simp[*];rfl)
 rw[if_neg k2]
 by_cases k3:x.kind=3
 ·rw[if_pos k3]
  have c1:=zero3_r x
  have c2:=holder_r d hF hG x
  generalize zeroB3 x=b1 at c1 ⊢
  generalize pZ d x=b2 at c2 ⊢
  repeat' first|(apply yQ;exact zD;rfl;rfl;refine zL ?_;first|exact c1 _|exact c2 _)|(refine xV ?_;and_intros<;>first|exact nl|intros)|cases ‹BV _ _›|fail
  all_goals
   refine zW .nil zG yY (zN ?_)
   first|(simp[*];done)|(simp[*];rfl)
 rw[if_neg k3]
 by_cases k4:x.kind=4
 ·rw[if_pos k4]
  have c1:=zero4_r x
  have c2:=named_r l hl x.of
  unfold voidR
  have hlt:=idx_lt (nameB x.of) l 0
  generalize zeroB4 x=b1 at c1 ⊢
  generalize yG (nameB x.of) l 0=i at c2 hlt ⊢
  cases b1 with
  |false=>
   repeat' first|((first|(apply yQ;exact zD;rfl;rfl)|(apply zwX;exact zD;rfl;rfl;intro σ' hl));refine zL ?_;first|exact c1 _|exact c2 _)|(refine xV ?_;and_intros<;>first|exact nl|intros)|refine zTd ?_|fail
   all_goals
    refine zW .nil zG yY (zN ?_)
    simp
  |true=>
  by_cases hi:0≤i
  ·obtain⟨j,rfl⟩: ∃j:Nat,i=j:=⟨i.toNat,by omega⟩
   obtain⟨y,hy⟩:=zH (show j<l.length by omega)
   have gy:=tW hy
   rw[Int.toNat_natCast,hy]
   repeat' first|((first|(apply yQ;exact zD;rfl;rfl)|(apply zwX;exact zD;rfl;rfl;intro σ' hl));refine zL ?_;first|exact c1 _|exact c2 _)|(refine xV ?_;and_intros<;>first|exact nl|intros)|refine zTd ?_|cases ‹BV _ _›|fail
   all_goals
    refine zW .nil zG yY (zN ?_)
    first|(simp[*];done)|(simp[*];rfl)
  ·repeat' first|((first|(apply yQ;exact zD;rfl;rfl)|(apply zwX;exact zD;rfl;rfl;intro σ' hl));refine zL ?_;first|exact c1 _|exact c2 _)|(refine xV ?_;and_intros<;>first|exact nl|intros)|refine zTd ?_|fail
   all_goals
    refine zW .nil zG yY (zN ?_)
    first|(simp[*];done)|(simp[*];omega)
 rw[if_neg k4]
 refine yW ?_;intros
 all_goals
  refine zW .nil zG yY (zN ?_)
  rfl
theorem long_r(l:List Ded)(hl:l.length≤9223372036854775807)(σ:List Ent):SCall prog 152 [deds l] σ (Is (.bool (tooL l)) σ):=by
 refine zZ func152 rfl (by simp) ?_
 have hlm:(l.map dedC).length=l.length:=List.length_map _
 unfold tooL
 by_cases h1:(512:Int)<l.length
 ·rw[decide_eq_true h1]
  refine yW ?_;intros
  all_goals
   refine zW .nil zG yY (zN ?_)
   simp
 rw[decide_eq_false h1,Bool.false_or]
 obtain⟨B,hB⟩: ∃B,(l.any fun x=>decide ((16:Int)<x.parts.length))=B:=⟨_,rfl⟩
 rw[hB]
 refine yW ?_;intros
 refine zU (fun(k:Nat)=>(⟨[(0,deds l),(3,.int .i64 k)],σ,[],f152.ntmps⟩:St)) (fun k=>k≤l.length∧B=(l.drop k).any fun x=>decide ((16:Int)<x.parts.length)) (fun k=>l.length-k) 0 (⟨Nat.zero_le _,by rw[←hB];rfl⟩) (St.le_of zC yY) ?_
 intro k hI
 clear hB
 obtain⟨hI1,hI2⟩:=hI
 by_cases hk:k<l.length
 ·obtain⟨x,hx⟩:=zH hk
  have gx:=tW hx
  rw[wZ hx,List.any_cons]at hI2
  have hpm:(x.parts.map prtC).length=x.parts.length:=List.length_map _
  by_cases h2:(16:Int)<x.parts.length
  ·rw[decide_eq_true h2,Bool.true_or]at hI2
   refine yW ?_;intros
   all_goals first
    |(
     refine zW .nil zG yY (zN ?_)
     rw[hI2])
    |(exfalso;omega)
  ·rw[decide_eq_false h2,Bool.false_or]at hI2
   refine yW ?_;intros
   refine⟨k+1,⟨hk,hI2⟩,by omega,St.le_of zC yY⟩
 ·rw[List.drop_of_length_le (by omega)]at hI2
  refine yW ?_;intros
  all_goals
   refine zW .nil zG yY (zN ?_)
   rw[hI2];rfl
def upR1(l:List Ded)(k:Nat):Bool:=if k=0 then true else match l[k]?,l[k-1]? with|some x,some y=>decide (y.no<x.no)|_,_=>false
def eachR(d:Dis)(l:List Ded):Bool:=(List.range l.length).all fun k=>match l[k]? with|some x=>upR1 l k&&rightR d (l.take k) x|none=>false
def tC(d:Dis)(l:List Ded):Int:=if checkW d≠0 then checkW d else if tooL l then 2 else if eachR d l then 0 else 250
theorem range_at{n k:Nat}(h:k<n):(List.range n)[k]?=some k:=List.getElem?_range h
theorem check25_r(d:Dis)(hl:d.R.length≤9223372036854775807∧d.C.length≤9223372036854775807∧d.F.length≤9223372036854775807∧d.G.length≤9223372036854775807∧d.D.length≤9223372036854775807)(l:List Ded)(hl2:l.length≤9223372036854775807)(σ:List Ent):SCall prog 100 [disV d,deds l] σ (Is (.int .i64 (tC d l)) σ):=by
 refine zZ func100 rfl (by simp) ?_
 have hlm:(l.map dedC).length=l.length:=List.length_map _
 have c1:=check19_r d hl
 have c2:=long_r l hl2
 unfold tC
 have hz:checkW d=0→yZ d=0:=checkW_zero
 generalize checkW d=e at c1 hz ⊢
 by_cases h1:e≠0
 ·rw[if_pos h1]
  clear c2
  repeat' first|(apply yQ;exact zD;rfl;rfl;refine zL ?_;exact c1 _)|(refine xV ?_;and_intros<;>first|exact nl|intros)|fail
  all_goals
   refine zW .nil zG zJ ?_
   rfl
 rw[if_neg h1]
 have h1:e=0:=by omega
 have hd:=hz h1
 subst h1
 clear hz
 have hf:=yC (zP hd).1
 cases ht:tooL l with
 |true=>
  rw[ht]at c2
  repeat' first|(apply yQ;exact zD;rfl;rfl;refine zL ?_;first|exact c1 _|exact c2 _)|(refine xV ?_;and_intros<;>first|exact nl|intros)|fail
  all_goals
   refine zW .nil zG zJ ?_
   rfl
 |false=>
 rw[ht]at c2
 unfold tooL at ht
 rw[Bool.or_eq_false_iff,decide_eq_false_iff_not]at ht
 obtain⟨ht1,ht2⟩:=ht
 rw[if_neg (by decide)]
 obtain⟨B,hB⟩: ∃B,eachR d l=B:=⟨_,rfl⟩
 rw[hB]
 repeat' first|(show EX _ _ (Code.seq (Code.region 1 _ _) _) _ _;refine Stuck.out ?_)|(refine vW ?_;intros)|fail
 all_goals try refine Stuck.mk ?_
 rename Nat=>b2;revert b2
 intro b2
 repeat' first|(apply yQ;exact zD;rfl;rfl;refine zL ?_;first|exact c1 _|exact c2 _)|(refine xV ?_;and_intros<;>first|exact nl|intros)|fail
 clear c1 c2
 refine zU (fun(k:Nat)=>(⟨[(1,deds l),(2,.ptr b2 0),(6,.int .i64 k)],.cells b2 (disC d) 31::σ,[],f100.ntmps⟩:St)) (fun k=>k≤l.length∧B=((List.range l.length).drop k).all fun k=>match l[k]? with|some x=>upR1 l k&&rightR d (l.take k) x|none=>false) (fun k=>l.length-k) 0 (⟨Nat.zero_le _,by rw[←hB];rfl⟩) (St.le_of zC yY) ?_
 intro k hI
 clear hB
 obtain⟨hI1,hI2⟩:=hI
 by_cases hk:k<l.length
 ·obtain⟨x,hx⟩:=zH hk
  have gx:=tW hx
  rw[jT (range_at hk),hx]at hI2
  dsimp only at hI2
  generalize hrest:((List.range l.length).drop (k+1)).all (fun k=>match l[k]? with|some x=>upR1 l k&&rightR d (l.take k) x|none=>false)=rest at hI2
  have cr:=right25_r d (by omega) (by omega) (l.take k) (by rw[List.length_take];omega) x (by
   have:=List.any_eq_false.1 ht2 x (List.mem_of_getElem? hx)
   simp only[decide_eq_true_eq]at this
   omega)
  generalize rightR d (l.take k) x=b at cr hI2
  rcases Nat.eq_zero_or_pos k with rfl|h0
  ·have hu:upR1 l 0=true:=rfl
   rw[hu,Bool.true_and]at hI2
   cases b with
   |true=>
    refine yW ?_;intros
    refine wH (fun _=>True) [] rfl rfl ?_
    repeat' first|(refine zB ?_;intros)|(apply zvI;exact zD;rfl;intro σ' hl;(exact zQ rfl rfl (zX (by kernel_rfl)) (cr _)))|(refine xB ?_;intros)|(refine yV ?_ ?_<;>(intro z;cases z with|_ h)<;>intro hp)|exact nl|fail
    refine⟨0+1,⟨hk,by rw[hrest,hI2];simp⟩,by omega,St.le_of zC yY⟩
   |false=>
    refine yW ?_;intros
    refine wH (fun _=>True) [] rfl rfl ?_
    repeat' first|(refine zB ?_;intros)|(apply zvI;exact zD;rfl;intro σ' hl;(exact zQ rfl rfl (zX (by kernel_rfl)) (cr _)))|(refine xB ?_;intros)|(refine yV ?_ ?_<;>(intro z;cases z with|_ h)<;>intro hp)|exact nl|fail
    refine zW .nil zG zJ ?_
    rw[hI2];rfl
  ·obtain⟨y,hy⟩:=zH (show k-1<l.length by omega)
   have gy:=tW hy
   have hk1:((k:Nat):Int)-1=((k-1:Nat):Int):=by omega
   have hu:upR1 l k=decide (y.no<x.no):=by
    unfold upR1
    rw[if_neg (by omega),hx,hy]
   rw[hu]at hI2
   by_cases hlt:y.no<x.no
   ·rw[decide_eq_true hlt,Bool.true_and]at hI2
    cases b with
    |true=>
     refine yW ?_;intros
     refine wH (fun _=>True) [] rfl rfl ?_
     repeat' first|(refine zB ?_;intros)|(apply zvI;exact zD;rfl;intro σ' hl;(exact zQ rfl rfl (zX (by kernel_rfl)) (cr _)))|(refine xB ?_;intros)|(refine yV ?_ ?_<;>(intro z;cases z with|_ h)<;>intro hp)|exact nl|fail
     refine⟨k+1,⟨hk,by rw[hrest,hI2];simp⟩,by omega,St.le_of zC yY⟩
    |false=>
     refine yW ?_;intros
     refine wH (fun _=>True) [] rfl rfl ?_
     repeat' first|(refine zB ?_;intros)|(apply zvI;exact zD;rfl;intro σ' hl;(exact zQ rfl rfl (zX (by kernel_rfl)) (cr _)))|(refine yV ?_ ?_<;>(intro z;cases z with|_ h)<;>intro hp)|exact nl|fail
     refine zW .nil zG zJ ?_
     rw[hI2];rfl
   ·rw[decide_eq_false hlt]at hI2
    clear cr
    refine yW ?_;intros
    refine wH (fun _=>True) [] rfl rfl ?_
    refine yW ?_;intros
    refine zW .nil zG zJ ?_
    rw[hI2];rfl
 ·rw[List.drop_of_length_le (by rw[List.length_range];omega)]at hI2
  refine yW ?_;intros
  all_goals
   refine zW .nil zG zJ ?_
   rw[hI2];rfl
end Go.Proofs.YtaoaafdommlhcaaGreat
