/- Parts of the proof that belong together: Gb Gc Gd Gf Ha Hb Hc. -/
import Derived.Test.YtaoaafdommlhcaaGreatHA07
import Derived.Test.YtaoaafdommlhcaaGreatHA26
set_option maxRecDepth 10000
set_option maxHeartbeats 32000000
set_option linter.unusedSimpArgs false
set_option linter.unusedVariables false
set_option autoImplicit false
open Go.Proofs.Tryz
namespace Go.Proofs.YtaoaafdommlhcaaGreat
open Go.Shelf Go.Sort Go.RowKit
noncomputable def tZ (x:Rch) (w:Int):Option Int:=if w=0 then some 0 else if 1073741824<w then none else if uP x w≤1073741824 then some (max (uP x w:Int) x.siphon)else none
theorem intake_c(x:Rch)(h:RchOk x)(w:Int)(hw:0≤w∧w≤4611686018427387904)(σ:List Ent):SCall prog 121 [rchV x,.int .i64 w] σ (Is (.tup [.int .i64 ((tZ x w).getD 0),.bool (tZ x w).isSome]) σ):=by
 refine zZ func121 rfl (by simp) ?_
 unfold tZ
 by_cases h0:w=0
 ·rw[if_pos h0]
  refine yW ?_;intros
  refine zS (σ3:=σ) .nil zG zJ ?_
  subst h0
  exact zY .mk
 rw[if_neg h0]
 by_cases h1:1073741824<w
 ·rw[if_pos h1]
  refine yW ?_;intros
  all_goals
   refine zS (σ3:=σ) .nil zG zJ ?_
   rw[show (w==0)=false by simpa using h0]
   exact zY .mk
 rw[if_neg h1]
 have cn:=fun σ=>need_c x h w (by omega) σ
 unfold needV at cn
 by_cases h2:uP x w≤1073741824
 ·rw[if_pos h2]
  rw[if_pos h2]at cn
  generalize uP x w=n at cn
  have hs:=h.cp
  repeat' first|(refine zB ?_;intros)|(refine xB ?_;intros)|(apply yQ;exact zD;rfl;rfl;refine zL ?_;exact cn _)|(refine yV ?_ ?_<;>(intro z;cases z with|_ h)<;>intro hp)|exact nl|fail
  all_goals
   refine zS (σ3:=σ) .nil zG zJ ?_
   exact zY .mk
 ·rw[if_neg h2]
  rw[if_neg h2]at cn
  repeat' first|(apply yQ;exact zD;rfl;rfl;refine zL ?_;exact cn _)|(refine xV ?_;and_intros<;>first|exact nl|intros)|fail
  all_goals
   refine zS (σ3:=σ) .nil zG zJ ?_
   exact zY .mk
def kL(d:Dis)(o:Ord'):Bool:=decide (0≤o.hour)&&decide (o.hour<d.hours)&&decide (0≤o.index)&&decide (o.index<(if o.outlet then d.F.length else d.R.length:Nat))&&decide (1≤o.litres)&&decide (o.litres≤1073741824)
def ordsB(d:Dis):Option Ord'→List Ord'→Bool
 |_,[]=>true
 |p,o::l=>kL d o&&(match p with|none=>true|some q=>decide (pV (yF q) (yF o)<0))&&ordsB d (some o) l
theorem ordsB_cons(d:Dis)(p:Option Ord')(o:Ord')(l:List Ord'):ordsB d p (o::l)=(kL d o&&(match p with|none=>true|some q=>decide (pV (yF q) (yF o)<0))&&ordsB d (some o) l):=by cases p<;>rfl
def tA(d:Dis)(l:List Ord'):Int:=if yZ d≠0 then yZ d else if (4096:Int)<l.length then 2 else if ordsB d none l then 0 else 220
def prevO(l:List Ord')(k:Nat):Option Ord':=if k=0 then none else l[k-1]?
theorem checkO_c(d:Dis)(l:List Ord')(σ:List Ent):SCall prog 133 [disV d,ords l] σ (Is (.int .i64 (tA d l)) σ):=by
 refine zZ func133 rfl (by simp) ?_
 have cd:=check_c d
 have cc:=fun σ=>compare_c σ
 unfold tA
 by_cases h0:yZ d=0
 rotate_left
 ·rw[if_pos h0]
  generalize yZ d=e at cd h0
  repeat' first|(apply yQ;exact zD;rfl;rfl;refine zL ?_;exact cd _)|(refine xV ?_;and_intros<;>first|exact nl|intros)|fail
  all_goals
   refine zW .nil zG zJ ?_
   rfl
 rw[if_neg (fun h=>h h0)]
 rw[h0]at cd
 have hhr:=xF (zP h0).2
 have hF:=(yC (zP h0).1).2.1
 have hR:=(yC (zP h0).1).1
 clear h0
 have hlm:(l.map ordC).length=l.length:=List.length_map _
 by_cases h1:(4096:Int)<l.length
 ·rw[if_pos h1]
  repeat' first|(apply yQ;exact zD;rfl;rfl;refine zL ?_;exact cd _)|(refine xV ?_;and_intros<;>first|exact nl|intros)|fail
  all_goals
   refine zW .nil zG zJ ?_
   rfl
 rw[if_neg h1]
 repeat' first|(apply yQ;exact zD;rfl;rfl;refine zL ?_;first|exact cd _|exact cc _)|(refine xV ?_;and_intros<;>first|exact nl|intros)|fail
 clear cd cc
 rename Nat=>bd;revert bd
 intro bd
 refine zU (fun(k:Nat)=>(⟨[(1,ords l),(2,.ptr bd 0),(5,cmpFn),(18,ords l),(19,.int .i64 l.length),(20,.int .i64 k)],.cells bd (disC d) 31::σ,[],f133.ntmps⟩:St)) (fun k=>k≤l.length∧ordsB d none l=ordsB d (prevO l k) (l.drop k)) (fun k=>l.length-k) 0 (⟨Nat.zero_le _,rfl⟩) (St.le_of zC yY) ?_
 intro k hI
 obtain⟨hI1,hI2⟩:=hI
 by_cases hk:k<l.length
 rotate_left
 ·rw[List.drop_of_length_le (by omega)]at hI2
  rw[hI2]
  simp only[ordsB]
  refine yW ?_;intros
  refine zW .nil zG zJ ?_
  rfl
 obtain⟨o,ho⟩:=zH hk
 have go:=ord_get ho
 rw[wZ ho,ordsB_cons]at hI2
 have hnx:some o=prevO l (k+1):=by unfold prevO;rw[if_neg (by omega),Nat.add_sub_cancel,ho]
 rw[hnx]at hI2
 clear ho hnx
 cases hout:o.outlet
 ·have hN:kL d o=(decide (0≤o.hour)&&decide (o.hour<d.hours)&&decide (0≤o.index)&&decide (o.index<(d.R.length:Nat))&&decide (1≤o.litres)&&decide (o.litres≤1073741824)):=by unfold kL;rw[hout];rfl
  by_cases hob:kL d o=true
  ·rw[hob]at hI2
   rw[hN]at hob
   simp only[Bool.and_eq_true,decide_eq_true_eq]at hob
   obtain⟨⟨⟨⟨⟨o1,o2⟩,o3⟩,o4⟩,o5⟩,o6⟩:=hob
   clear hN
   by_cases k0:k=0
   ·subst k0
    have hI3:ordsB d none l=ordsB d (prevO l (0+1)) (l.drop (0+1)):=by rw[hI2];rfl
    clear hI2
    repeat' first|(refine xV ?_;and_intros<;>first|exact nl|intros)|refine zTd ?_|fail
    all_goals first
     |exact⟨0+1,⟨hk,hI3⟩,by omega,(St.le_of zC zJ)⟩
     |(exfalso;first|(simp at hp;omega)|(rename_i hp;simp at hp;omega))
   ·obtain⟨j,rfl⟩: ∃j,k=j+1:=⟨k-1,by omega⟩
    obtain⟨p,hpr⟩:=zH (show j<l.length by omega)
    have gp:=ord_get hpr
    have hpv:prevO l (j+1)=some p:=by unfold prevO;rw[if_neg (by omega),Nat.add_sub_cancel,hpr]
    rw[hpv]at hI2
    clear hpr hpv
    have co:=fun σ=>by1_c p o σ
    have ej:(((j+1:Nat):Int)-1)=(j:Int):=by omega
    dsimp only at hI2
    generalize pV (yF p) (yF o)=q at hI2 co
    by_cases hq:q<0
    ·rw[decide_eq_true hq,Bool.and_true,Bool.true_and]at hI2
     repeat' first|(apply zwX;exact zD;rfl;rfl;intro σ' hl;refine zL ?_;exact co _)|(refine xV ?_;and_intros<;>first|exact nl|intros)|refine zTd ?_|fail
     all_goals first
      |exact⟨j+1+1,⟨hk,hI2⟩,by omega,(St.le_of zC zJ)⟩
      |(exfalso;first|(simp at hp;omega)|(rename_i hp;simp at hp;omega))
    ·rw[decide_eq_false hq,Bool.and_false,Bool.false_and]at hI2
     rw[hI2]
     repeat' first|(apply zwX;exact zD;rfl;rfl;intro σ' hl;refine zL ?_;exact co _)|(refine xV ?_;and_intros<;>first|exact nl|intros)|refine zTd ?_|fail
     all_goals
      refine zW .nil zG zJ ?_
      rfl
  ·rw[Bool.not_eq_true]at hob
   rw[hob,Bool.false_and,Bool.false_and]at hI2
   rw[hI2]
   rw[hN]at hob
   simp only[Bool.and_eq_false_iff,decide_eq_false_iff_not]at hob
   have hob2:o.hour<0∨d.hours≤o.hour∨o.index<0∨((d.R.length:Nat):Int)≤o.index∨o.litres<1∨1073741824<o.litres:=by omega
   clear hob hN hI2
   repeat' first|(refine xV ?_;and_intros<;>first|exact nl|intros)|refine zTd ?_|fail
   all_goals
    refine zW .nil zG zJ ?_
    rfl
 ·have hN:kL d o=(decide (0≤o.hour)&&decide (o.hour<d.hours)&&decide (0≤o.index)&&decide (o.index<(d.F.length:Nat))&&decide (1≤o.litres)&&decide (o.litres≤1073741824)):=by unfold kL;rw[hout];rfl
  by_cases hob:kL d o=true
  ·rw[hob]at hI2
   rw[hN]at hob
   simp only[Bool.and_eq_true,decide_eq_true_eq]at hob
   obtain⟨⟨⟨⟨⟨o1,o2⟩,o3⟩,o4⟩,o5⟩,o6⟩:=hob
   clear hN
   by_cases k0:k=0
   ·subst k0
    have hI3:ordsB d none l=ordsB d (prevO l (0+1)) (l.drop (0+1)):=by rw[hI2];rfl
    clear hI2
    repeat' first|(refine xV ?_;and_intros<;>first|exact nl|intros)|refine zTd ?_|fail
    all_goals first
     |exact⟨0+1,⟨hk,hI3⟩,by omega,(St.le_of zC zJ)⟩
     |(exfalso;first|(simp at hp;omega)|(rename_i hp;simp at hp;omega))
   ·obtain⟨j,rfl⟩: ∃j,k=j+1:=⟨k-1,by omega⟩
    obtain⟨p,hpr⟩:=zH (show j<l.length by omega)
    have gp:=ord_get hpr
    have hpv:prevO l (j+1)=some p:=by unfold prevO;rw[if_neg (by omega),Nat.add_sub_cancel,hpr]
    rw[hpv]at hI2
    clear hpr hpv
    have co:=fun σ=>by1_c p o σ
    have ej:(((j+1:Nat):Int)-1)=(j:Int):=by omega
    dsimp only at hI2
    generalize pV (yF p) (yF o)=q at hI2 co
    by_cases hq:q<0
    ·rw[decide_eq_true hq,Bool.and_true,Bool.true_and]at hI2
     repeat' first|(apply zwX;exact zD;rfl;rfl;intro σ' hl;refine zL ?_;exact co _)|(refine xV ?_;and_intros<;>first|exact nl|intros)|refine zTd ?_|fail
     all_goals first
      |exact⟨j+1+1,⟨hk,hI2⟩,by omega,(St.le_of zC zJ)⟩
      |(exfalso;first|(simp at hp;omega)|(rename_i hp;simp at hp;omega))
    ·rw[decide_eq_false hq,Bool.and_false,Bool.false_and]at hI2
     rw[hI2]
     repeat' first|(apply zwX;exact zD;rfl;rfl;intro σ' hl;refine zL ?_;exact co _)|(refine xV ?_;and_intros<;>first|exact nl|intros)|refine zTd ?_|fail
     all_goals
      refine zW .nil zG zJ ?_
      rfl
  ·rw[Bool.not_eq_true]at hob
   rw[hob,Bool.false_and,Bool.false_and]at hI2
   rw[hI2]
   rw[hN]at hob
   simp only[Bool.and_eq_false_iff,decide_eq_false_iff_not]at hob
   have hob2:o.hour<0∨d.hours≤o.hour∨o.index<0∨((d.F.length:Nat):Int)≤o.index∨o.litres<1∨1073741824<o.litres:=by omega
   clear hob hN hI2
   repeat' first|(refine xV ?_;and_intros<;>first|exact nl|intros)|refine zTd ?_|fail
   all_goals
    refine zW .nil zG zJ ?_
    rfl
open Go.Shelf Go.Sort Go.RowKit
def narrowO(d:Dis)(l:List Ord'):Int:=if tA d l=0∧1024<(d.R.length:Int)*d.hours then 2 else tA d l
theorem checkO_dis{d:Dis}{l:List Ord'}(h:tA d l=0):yZ d=0∧l.length≤4096∧ordsB d none l=true:=by
 unfold tA at h
 by_cases h0:yZ d=0
 ·rw[if_neg (fun h=>h h0)]at h
  by_cases h1:(4096:Int)<l.length
  ·rw[if_pos h1]at h;cases h
  ·rw[if_neg h1]at h
   by_cases h2:ordsB d none l=true
   ·exact⟨h0,by omega,h2⟩
   ·rw[if_neg h2]at h;cases h
 ·rw[if_pos h0]at h;exact absurd h h0
theorem narrow_c(d:Dis)(l:List Ord')(σ:List Ent):SCall prog 118 [disV d,ords l] σ (Is (.int .i64 (narrowO d l)) σ):=by
 refine zZ func118 rfl (by simp) ?_
 have cc:=fun σ=>checkO_c d l σ
 unfold narrowO
 by_cases h0:tA d l=0
 ·obtain⟨hd,_,_⟩:=checkO_dis h0
  have hH:=xF (zP hd).2
  have hR:=(yC (zP hd).1).1
  have hH1:1≤d.hours:=by
   have hv:=(zP hd).2
   unfold yD tY at hv
   simp[vS]at hv
   omega
  have hm1:0≤(d.R.length:Int)*d.hours:=Int.mul_nonneg (by omega) (by omega)
  have hm2:(d.R.length:Int)*d.hours≤64*4096:=Int.mul_le_mul (by omega) hH (by omega) (by omega)
  rw[h0]at cc ⊢
  by_cases h1:1024<(d.R.length:Int)*d.hours
  ·rw[if_pos ⟨rfl,h1⟩]
   repeat' first|(apply yQ;exact zD;rfl;rfl;refine zL ?_;exact cc _)|(refine xV ?_;and_intros<;>first|exact nl|intros)|fail
   all_goals
    refine zW .nil zG zJ ?_
    rfl
  ·rw[if_neg (fun h=>h1 h.2)]
   repeat' first|(apply yQ;exact zD;rfl;rfl;refine zL ?_;exact cc _)|(refine xV ?_;and_intros<;>first|exact nl|intros)|fail
   all_goals
    refine zW .nil zG zJ ?_
    rfl
 ·rw[if_neg (fun h=>h0 h.1)]
  generalize tA d l=e at cc h0
  repeat' first|(apply yQ;exact zD;rfl;rfl;refine zL ?_;exact cc _)|(refine xV ?_;and_intros<;>first|exact nl|intros)|fail
  all_goals
   refine zW .nil zG zJ ?_
   rfl
theorem plsUp_succ(n H:Nat):yL (n+1) H=((List.range H).map fun h=>(n,h))++yL n H:=by
 unfold yL
 rw[List.range_succ,List.reverse_append]
 rfl
theorem upward_c(d:Dis)(σ:List Ent):SCall prog 120 [disV d] σ (fun r τ=> ∃b,r=.fn (.func 177) [] [.ptr b 0]∧τ=.cells b (disC d) 31::σ):=by
 refine zZ func120 rfl (by simp) ?_
 refine yW ?_;intros
 rename Nat=>b;revert b
 intro b
 refine zS (σ3:=.cells b (disC d) 31::σ) .nil zG zJ ?_
 exact zY ⟨b,rfl,rfl⟩
theorem qU{n k:Nat}(h:k<n):(List.range n).drop k=k::(List.range n).drop (k+1):=wZ (List.getElem?_range h)
theorem upward1_c(d:Dis)(hH:0≤d.hours∧d.hours≤4096)(hR:d.R.length≤64)(b:Nat):
  Yields prog 177 [] [.ptr b 0] ((yL d.R.length d.hours.toNat).map fun p=>[AV.int .i64 p.1,AV.int .i64 p.2]) (fun τ=>Ent.cells b (disC d) 31∈τ):=by
 intro y σ I Stop hC hy h0
 refine zZ func177 rfl (by simp) ?_
 have m0:=hC _ _ h0
 obtain⟨N,hN⟩: ∃N:Nat,d.hours=N:=⟨d.hours.toNat,by omega⟩
 rw[hN,Int.toNat_natCast]at hy ⊢
 obtain⟨F,hF⟩: ∃F,F=yL d.R.length N:=⟨_,rfl⟩
 rw[←hF]at hy ⊢
 refine yW ?_;intros
 refine zU (fun(z:Nat×Int×Nat×List Ent)=>(⟨[(0,.fn (.yield y) [] []),(1,.ptr b 0),(3,.int .i64 z.2.1)],z.2.2.2,[],f177.ntmps⟩:St)) (fun z=>z.1≤d.R.length∧z.2.1=(z.1:Int)-1∧yL z.1 N=F.drop z.2.2.1∧z.2.2.1≤F.length∧I z.2.2.1 z.2.2.2) (fun z=>z.1) (d.R.length,(d.R.length:Int)-1,0,σ) (⟨Nat.le_refl _,rfl,by dsimp only;rw[←hF];rfl,Nat.zero_le _,h0⟩) (St.le_of zC yY) ?_
 intro z hI
 obtain⟨m,r,j,τ⟩:=z
 obtain⟨hI1,hI2,hI3,hI4,hI5⟩:=hI
 dsimp only at hI1 hI2 hI3 hI4 hI5 ⊢
 clear m0 h0
 have m0:=hC _ _ hI5
 cases m with
 |zero=>
  have hj:j=F.length:=by
   have:F.drop j=[]:=hI3.symm
   have:=List.drop_eq_nil_iff.1 this
   omega
  have hr0:r<0:=by omega
  refine yW ?_;intros
  refine zS (σ3:=τ) .nil zG zJ ?_
  exact zY (.inl (by rw[List.length_map,←hj];exact hI5))
 |succ i=>
  obtain rfl:r=(i:Int):=by omega
  rw[plsUp_succ]at hI3
  clear hI2
  have hRi:(i:Int)≤64:=by omega
  refine yW ?_;intros
  clear m0
  refine zU (fun(z:Nat×Nat×List Ent)=>(⟨[(0,.fn (.yield y) [] []),(1,.ptr b 0),(3,.int .i64 (i:Int)),(14,.int .i64 d.hours),(15,.int .i64 (z.1:Nat))],z.2.2,[],f177.ntmps⟩:St)) (fun z=>z.1≤N∧(((List.range N).drop z.1).map fun h=>(i,h))++yL i N=F.drop z.2.1∧z.2.1≤F.length∧I z.2.1 z.2.2) (fun z=>N-z.1) (0,j,τ) (⟨Nat.zero_le _,hI3,hI4,hI5⟩) (St.le_of zC yY) ?_
  intro z hI
  obtain⟨h_,k,ρ⟩:=z
  obtain⟨hJ1,hJ2,hJ3,hJ4⟩:=hI
  dsimp only at hJ1 hJ2 hJ3 hJ4 ⊢
  clear hI3 hI4 hI5
  by_cases hk:h_<N
  ·rw[qU hk,List.map_cons,List.cons_append]at hJ2
   have hj:F[k]?=some (i,h_):=by
    have:=congrArg (fun m:List Pl=>m[0]?) hJ2
    simpa using this.symm
   have hjd:(((List.range N).drop (h_+1)).map fun h=>(i,h))++yL i N=F.drop (k+1):=by
    have:=congrArg (fun m:List Pl=>m.drop 1) hJ2
    simpa using this
   have hjl:k<F.length:=(List.getElem?_eq_some_iff.1 hj).1
   have hr:=hy k [.int .i64 (i:Int),.int .i64 (h_:Int)] ρ (by rw[List.getElem?_map,hj];rfl) hJ4
   clear hy hj hJ2 hC
   have hlt:(h_:Int)<d.hours:=by omega
   repeat' first|(refine xD (.call {callee:=.value (.tmp _),args:=_,argTypes:=_}) ?_;refine zK rfl rfl rfl (tX rfl rfl hr) ?_;rintro _ _ (⟨rfl,hs⟩|⟨rfl,hs⟩))|(refine yX ?_;intros)|(refine yV ?_ ?_<;>(intro z;cases z with|_ h)<;>intro hp)|exact nl|fail
   ·rename List Ent=>σ2
    exact⟨(h_+1,k+1,σ2),⟨hk,hjd,hjl,hs⟩,by dsimp only;omega,(St.le_of zC zJ)⟩
   ·rename List Ent=>σ2
    refine zS (σ3:=σ2) .nil zG zJ ?_
    exact zY (.inr hs)
  ·obtain rfl:h_=N:=by omega
   rw[List.drop_of_length_le (by simp),List.map_nil,List.nil_append]at hJ2
   have hge:¬ (h_:Int)<d.hours:=by omega
   clear hy hC
   refine yW ?_;intros
   exact⟨(i,(i:Int)-1,k,ρ),⟨by dsimp only;omega,rfl,hJ2,hJ3,hJ4⟩,by dsimp only;omega,(St.le_of zC zJ)⟩
def Tryz.sortOrd_ren:Go.Shelf.Ren:=⟨fun|6=>122|15=>113|14=>178|28=>173|29=>174|20=>232|21=>233|22=>234|23=>235|24=>236|25=>237|26=>238|27=>239|46=>273|47=>228|48=>229|49=>274|50=>275|57=>290|n=>n,fun|22=>36|24=>95|25=>223|3=>3|39=>193|0=>0|53=>275|55=>277|4=>4|46=>269|45=>268|50=>118|5=>5|9=>9|66=>323|70=>327|76=>351|77=>352|n=>n,fun|n=>n⟩
theorem Tryz.sortOrd:Go.Proofs.SlLaysF0.n6 prog Tryz.sortOrd_ren:={
 mixed:=by kernel_rfl
 f6:=⟨f122.name,by decide,func122.trans (congrArg some (by kernel_rfl))⟩
 f14:=⟨f178.name,by decide,func178.trans (congrArg some (by kernel_rfl))⟩
 f15:=func113.trans (congrArg some (by kernel_rfl))
 f20:=⟨f232.name,by decide,func232.trans (congrArg some (by kernel_rfl))⟩
 f21:=⟨f233.name,by decide,func233.trans (congrArg some (by kernel_rfl))⟩
 f22:=⟨f234.name,by decide,func234.trans (congrArg some (by kernel_rfl))⟩
 f23:=⟨f235.name,by decide,func235.trans (congrArg some (by kernel_rfl))⟩
 f24:=⟨f236.name,by decide,func236.trans (congrArg some (by kernel_rfl))⟩
 f25:=⟨f237.name,by decide,func237.trans (congrArg some (by kernel_rfl))⟩
 f26:=⟨f238.name,by decide,func238.trans (congrArg some (by kernel_rfl))⟩
 f27:=⟨f239.name,by decide,func239.trans (congrArg some (by kernel_rfl))⟩
 f28:=func173.trans (congrArg some (by kernel_rfl))
 f29:=func174.trans (congrArg some (by kernel_rfl))
 f46:=⟨f273.name,by decide,func273.trans (congrArg some (by kernel_rfl))⟩
 f47:=func228.trans (congrArg some (by kernel_rfl))
 f48:=func229.trans (congrArg some (by kernel_rfl))
 f49:=⟨f274.name,by decide,func274.trans (congrArg some (by kernel_rfl))⟩
 f50:=⟨f275.name,by decide,func275.trans (congrArg some (by kernel_rfl))⟩
 f57:=⟨f290.name,by decide,func290.trans (congrArg some (by kernel_rfl))⟩
 t0:=Tryz.underlying0
 a0:=Tryz.isAgg0
 z0:=Tryz.sizeOf0
 v0:=Tryz.zeroValue0
 t3:=Tryz.underlying3
 a3:=Tryz.isAgg3
 z3:=Tryz.sizeOf3
 v3:=Tryz.zeroValue3
 t4:=Tryz.underlying4
 a4:=Tryz.isAgg4
 z4:=Tryz.sizeOf4
 v4:=Tryz.zeroValue4
 t5:=Tryz.underlying5
 a5:=Tryz.isAgg5
 z5:=Tryz.sizeOf5
 v5:=Tryz.zeroValue5
 t9:=Tryz.underlying9
 a9:=Tryz.isAgg9
 z9:=Tryz.sizeOf9
 v9:=Tryz.zeroValue9
 t22:=Tryz.underlying36
 a22:=Tryz.isAgg36
 z22:=Tryz.sizeOf36
 v22:=Tryz.zeroValue36
 t25:=Tryz.underlying223
 a25:=Tryz.isAgg223
 z25:=Tryz.sizeOf223
 v25:=Tryz.zeroValue223
 t39:=Tryz.underlying193
 a39:=Tryz.isAgg193
 z39:=Tryz.sizeOf193
 v39:=Tryz.zeroValue193
 t45:=Tryz.underlying268
 a45:=Tryz.isAgg268
 z45:=Tryz.sizeOf268
 v45:=Tryz.zeroValue268
 t46:=Tryz.underlying269
 a46:=Tryz.isAgg269
 z46:=Tryz.sizeOf269
 v46:=Tryz.zeroValue269
 t50:=Tryz.underlying118
 a50:=Tryz.isAgg118
 z50:=Tryz.sizeOf118
 v50:=Tryz.zeroValue118
 t53:=Tryz.underlying275
 a53:=Tryz.isAgg275
 z53:=Tryz.sizeOf275
 v53:=Tryz.zeroValue275
 t55:=Tryz.underlying277
 a55:=Tryz.isAgg277
 z55:=Tryz.sizeOf277
 v55:=Tryz.zeroValue277
 t66:=Tryz.underlying323
 a66:=Tryz.isAgg323
 z66:=Tryz.sizeOf323
 v66:=Tryz.zeroValue323
 t70:=Tryz.underlying327
 a70:=Tryz.isAgg327
 z70:=Tryz.sizeOf327
 v70:=Tryz.zeroValue327
 t76:=Tryz.underlying351
 a76:=Tryz.isAgg351
 z76:=Tryz.sizeOf351
 v76:=Tryz.zeroValue351
 t77:=Tryz.underlying352
 a77:=Tryz.isAgg352
 z77:=Tryz.sizeOf352
 v77:=Tryz.zeroValue352}
theorem sortOrd_c{l:List Ord'}{v:Value}{σ:List Ent}{F:Ent→List Ent}(hb:l.length≤4000000)(hu: ∀e',Upd σ (.row v 95 4 (l.map ordC)) e' (F e')):
  SCall prog 122 [.slv v,cmpFn] σ (fun r τ=>r=.tup []∧ ∃S:List Ord',S.Perm l∧S.Pairwise (fun a b=>ltOf (fun a b=>pV (yF a) (yF b)) b a=false)∧τ=F (.row v 95 4 (S.map ordC))):=
 sortK_in Tryz.sortOrd (enc:=ordE) (av:=ordC) (by decide) (fun w=>(xE (b:=true) (sz:=4) rfl w).1) (fun w=>(xE (b:=true) (sz:=4) rfl w).2) (fun _=>rfl)
  (fun x v hv=>by simp only[ordE,List.mem_cons,List.not_mem_nil,or_false]at hv;rcases hv with rfl|rfl|rfl|rfl<;>rfl)
  (fun M x vs h=>by subst h;have:=(ord_rel M [x] _).2 rfl;simpa using this) ord_rel (fun _=>rfl) (swo_lex (n:=3) fun _=>rfl)
  (enters_of func240 (by kernel_rfl) rfl) (fun x y=>by1_c x y []) (by omega) hu
open Go.WideMaps
theorem pL:KeyLaw prog 96:=deep_law_laid (by kernel_rfl) (m:=3) (by omega) (of_decide_eq_true (by kernel_rfl)) (by kernel_rfl) (by kernel_rfl)
theorem pK:kmKey prog 96 [false,false]=true:=by kernel_rfl
theorem ord_one(l:List Ord'): ∀y∈l.map ordC,y.all AV.one=true:=by
 intro y hy
 obtain⟨_,_,rfl⟩:=List.mem_map.1 hy
 rfl
theorem cloneO_c(l:List Ord')(hl:l.length≤10000)(σ:List Ent):SCall prog 119 [ords l] σ (fun r τ=> ∃v,r=.slv v∧τ=.row v 95 4 (l.map ordC)::σ):=by
 refine zZ func119 rfl (by simp) ?_
 have h1:=ord_one l
 by_cases h0:l=[]
 ·subst h0
  refine xX 95 4 ?_
  repeat' first|(refine xD (.binOp _ _ _ _ _) ?_;refine zK rfl rfl rfl (g_eqlNilE rfl rfl) ?_;rintro _ _ ⟨b⟩)|(refine yX ?_;intros)|(refine yV ?_ ?_<;>(intro z;cases z with|_ h)<;>intro hp)|fail
  ·refine zS (σ3:=.row nilS 95 4 (List.map ordC [])::σ) .nil zG zJ ?_
   exact zY ⟨nilS,rfl,rfl⟩
  ·rename_i v3
   refine zS (σ3:=.row v3 95 4 (List.map ordC [])::σ) .nil zG zJ ?_
   exact zY ⟨v3,rfl,rfl⟩
 ·have hlen:0<(l.map ordC).length:=by rw[List.length_map];exact List.length_pos_iff.2 h0
  repeat' first|(refine zB ?_;intros)|(apply qX;exact zD;rfl;rfl;(apply g_eqlNil;rfl;rfl;exact hlen))|(refine xB ?_;intros)|fail
  rename_i v3
  refine zS (σ3:=.row v3 95 4 (l.map ordC)::σ) .nil zG zJ ?_
  exact zY ⟨v3,rfl,rfl⟩
def askF(d:Dis)(out:List Ord'):BkF:=out.foldl (fun f o=>vY f (K2 (vP d o.index) o.hour) o.litres) (fun _=>none)
theorem askF_int{d:Dis}: ∀{out:List Ord'} {f:BkF},IntV f→IntV (out.foldl (fun f o=>vY f (K2 (vP d o.index) o.hour) o.litres) f)
 |[],_,h=>h
 |o::out,f,h=>askF_int (d:=d) (out:=out) (h.add _ _)
theorem askF_le{d:Dis}{B:Int}: ∀{out:List Ord'} {f:BkF},(∀o∈out,0≤o.litres∧o.litres≤1073741824)→(∀q,0≤zV f q∧zV f q≤B)→ ∀q,0≤zV (out.foldl (fun f o=>vY f (K2 (vP d o.index) o.hour) o.litres) f) q∧zV (out.foldl (fun f o=>vY f (K2 (vP d o.index) o.hour) o.litres) f) q≤B+out.length*1073741824
 |[],f,_,h,q=>by simpa using h q
 |o::out,f,ho,h,q=>by
  obtain⟨h1,h2⟩:=ho o (by simp)
  have:=askF_le (d:=d) (B:=B+1073741824) (out:=out) (f:=vY f (K2 (vP d o.index) o.hour) o.litres) (fun x hx=>ho x (by simp[hx])) (fun q=>by
   rw[wD]
   have:=h q
   split<;>omega) q
  simp only[List.foldl_cons,List.length_cons]
  omega
noncomputable def planS (d:Dis):List Pl→BkF→List Ord'→Option (List Ord')
 |[],_,acc=>some acc
 |p::l,f,acc=>if zV f (atK p)=0 then planS d l f acc else match d.R[p.1]? with
  |some x=>match tZ x (zV f (atK p)) with
   |some v=>if (p.2:Int)<x.delay then none else planS d l (vY f (K2 x.up ((p.2:Int)-x.delay)) v) (acc++[⟨(p.2:Int)-x.delay,p.1,v,false⟩])
   |none=>none
  |none=>none
noncomputable def planO (d:Dis) (out:List Ord'):Option (List Ord'):=planS d (yL d.R.length d.hours.toNat) (askF d out) out
structure OutOk(d:Dis)(out:List Ord'):Prop where
 nar:narrowO d out=0
 out: ∀o∈out,o.outlet=true
theorem ords_each{d:Dis}: ∀{l:List Ord'} {p:Option Ord'},ordsB d p l=true→ ∀o∈l,kL d o=true
 |[],_,_,o,h=>by cases h
 |x::l,p,hb,o,h=>by
  rw[ordsB_cons]at hb
  simp only[Bool.and_eq_true]at hb
  rcases List.mem_cons.1 h with rfl|h
  ·exact hb.1.1
  ·exact ords_each hb.2 o h
theorem narrow_ok{d:Dis}{l:List Ord'}(h:narrowO d l=0):yZ d=0∧l.length≤4096∧ordsB d none l=true∧(d.R.length:Int)*d.hours≤1024:=by
 unfold narrowO at h
 by_cases h0:tA d l=0∧1024<(d.R.length:Int)*d.hours
 ·rw[if_pos h0]at h;cases h
 ·rw[if_neg h0]at h
  obtain⟨h1,h2,h3⟩:=checkO_dis h
  exact⟨h1,h2,h3,by have:=fun h9=>h0 ⟨h,h9⟩;omega⟩
def GateAt(d:Dis)(p:Pl)(g:Ord'):Prop:= ∃x,d.R[p.1]?=some x∧g.hour=(p.2:Int)-x.delay∧g.index=p.1∧g.outlet=false
theorem gate_key{d:Dis}{p q:Pl}{g h:Ord'}(hg:GateAt d p g)(hh:GateAt d q h)(e:yF g=yF h):p=q:=by
 obtain⟨x,x1,x2,x3,x4⟩:=hg
 obtain⟨y,y1,y2,y3,y4⟩:=hh
 simp only[yF,List.cons.injEq,and_true]at e
 obtain⟨e1,_,e3⟩:=e
 obtain⟨p1,p2⟩:=p
 obtain⟨q1,q2⟩:=q
 dsimp only at *
 obtain rfl:p1=q1:=by omega
 rw[x1]at y1
 cases y1
 obtain rfl:p2=q2:=by omega
 rfl
theorem plan_gates{d:Dis}: ∀{l:List Pl} {f:BkF} {acc L:List Ord'},l.Nodup→planS d l f acc=some L→ ∃G,L=acc++G∧(∀g∈G,∃p∈l,GateAt d p g)∧G.Pairwise fun a b=>yF a≠yF b
 |[],f,acc,L,_,h=>by
  unfold planS at h
  cases h
  exact⟨[],by simp,fun g hg=>(nomatch hg),.nil⟩
 |p::l,f,acc,L,hn,h=>by
  obtain⟨hp,hn2⟩:=List.nodup_cons.1 hn
  unfold planS at h
  split at h
  ·obtain⟨G,e,h1,h2⟩:=plan_gates hn2 h
   exact⟨G,e,fun g hg=>by obtain⟨q,hq,hk⟩:=h1 g hg;exact⟨q,by simp[hq],hk⟩,h2⟩
  ·split at h
   ·rename_i x hx
    split at h
    ·rename_i v hv
     split at h
     ·cases h
     ·obtain⟨G,e,h1,h2⟩:=plan_gates hn2 h
      have hg0:GateAt d p ⟨(p.2:Int)-x.delay,p.1,v,false⟩:=⟨x,hx,rfl,rfl,rfl⟩
      refine⟨⟨(p.2:Int)-x.delay,p.1,v,false⟩::G,by rw[e];simp,fun g hg=>?_,List.pairwise_cons.2 ⟨fun g hg hk=>?_,h2⟩⟩
      ·rcases List.mem_cons.1 hg with rfl|hg
       ·exact⟨p,by simp,hg0⟩
       ·obtain⟨q,hq,hk⟩:=h1 g hg
        exact⟨q,by simp[hq],hk⟩
      ·obtain⟨q,hq,hk2⟩:=h1 g hg
       have:=gate_key hg0 hk2 hk
       rw[this]at hp
       exact hp hq
    ·cases h
   ·cases h
theorem pls_nodup(n H:Nat):(yL n H).Nodup:=by
 induction n with
 |zero=>simp[yL]
 |succ n ih=>
  rw[plsUp_succ]
  unfold List.Nodup
  rw[List.pairwise_append]
  refine⟨?_,ih,?_⟩
  ·rw[List.pairwise_map]
   exact List.pairwise_lt_range.imp fun {a b} h e=>by injection e with _ e2;omega
  ·intro a ha b hb e
   obtain⟨h,_,rfl⟩:=List.mem_map.1 ha
   subst e
   have:=(mem_pls.1 hb).1
   omega
theorem ordsB_up{d:Dis}: ∀{l:List Ord'} {p:Option Ord'},ordsB d p l=true→(∀q,p=some q→ ∀o∈l,pF (yF q) (yF o)=true)∧l.Pairwise fun a b=>pF (yF a) (yF b)=true
 |[],p,_=>⟨fun _ _ o ho=>(nomatch ho),.nil⟩
 |o::l,p,h=>by
  rw[ordsB_cons]at h
  simp only[Bool.and_eq_true]at h
  obtain⟨⟨_,h1⟩,h2⟩:=h
  obtain⟨k1,k2⟩:=ordsB_up h2
  refine⟨fun q hq x hx=>?_,List.pairwise_cons.2 ⟨k1 o rfl,k2⟩⟩
  subst hq
  have h3:pF (yF q) (yF o)=true:=by rw[←lexI_lt];exact h1
  rcases List.mem_cons.1 hx with rfl|hx
  ·exact h3
  ·exact ltI_trans (l:=yF q) (m:=yF o) (k:=yF x) rfl rfl h3 (k1 o rfl x hx)
theorem plan_inj{d:Dis}{out L:List Ord'}(hO:OutOk d out)(h:planO d out=some L): ∀a∈L,∀b∈L,yF a=yF b→a=b:=by
 obtain⟨_,_,hb,_⟩:=narrow_ok hO.nar
 obtain⟨G,e,h1,h2⟩:=plan_gates (pls_nodup _ _) h
 have hup:=(ordsB_up hb).2
 have hinj: ∀{l:List Ord'},(l.Pairwise fun a b=>yF a≠yF b)→ ∀a∈l,∀b∈l,yF a=yF b→a=b:=by
  intro l hl
  induction l with
  |nil=>intro a ha;cases ha
  |cons x l ih=>
   obtain⟨q1,q2⟩:=List.pairwise_cons.1 hl
   intro a ha b hb hk
   rcases List.mem_cons.1 ha with e1|ha1<;>rcases List.mem_cons.1 hb with e2|hb2
   ·rw[e1,e2]
   ·exact absurd (e1▸hk) (q1 b hb2)
   ·exact absurd (e2▸hk.symm) (q1 a ha1)
   ·exact ih q2 a ha1 b hb2 hk
 refine hinj ?_
 rw[e,List.pairwise_append]
 refine⟨hup.imp fun {a b} hab hk=>?_,h2,fun a ha b hb hk=>?_⟩
 ·rw[hk,ltI_irr]at hab;cases hab
 ·obtain⟨p,_,x,_,_,_,g4⟩:=h1 b hb
  have:=hO.out a ha
  simp only[yF,List.cons.injEq]at hk
  rw[this,g4]at hk
  exact absurd hk.2.1 (by decide)
open Go.Shelf Go.Sort Go.RowKit Go.WideMaps
theorem wN:KeyLaw prog 228:=deep_law_laid (by kernel_rfl) (m:=3) (by omega) (of_decide_eq_true (by kernel_rfl)) (by kernel_rfl) (by kernel_rfl)
theorem wL:kmKey prog 228 [false,false]=true:=by kernel_rfl
theorem firstT_c(l:List Int)(hl:l.length≤1000)(σ:List Ent):SCall prog 124 [ints l] σ (Is (.int .i64 (orI l)) σ):=by
 refine zZ func124 rfl (by simp) ?_
 refine yW ?_;intros
 refine zU (fun(k:Nat)=>(⟨[(5,ints l),(6,.int .i64 l.length),(7,.int .i64 k)],σ,[],f124.ntmps⟩:St)) (fun k=>k≤l.length∧orI l=orI (l.drop k)) (fun k=>l.length-k) 0 (⟨by omega,rfl⟩) (St.le_of zC yY) ?_
 intro k hI
 obtain⟨hI1,hI2⟩:=hI
 by_cases hk:k<l.length
 ·obtain⟨x,hx⟩:=zH hk
  have gx:=wU hx
  rw[wZ hx,orI]at hI2
  clear hx
  by_cases h0:x=0
  ·rw[if_pos h0]at hI2
   refine yW ?_;intros
   exact⟨k+1,⟨hk,hI2⟩,by omega,(St.le_of zC zJ)⟩
  ·rw[if_neg h0]at hI2
   rw[hI2]
   clear hI2
   refine yW ?_;intros
   refine zW .nil zG zJ ?_
   rfl
 ·rw[List.drop_of_length_le (by omega)]at hI2
  rw[hI2]
  refine yW ?_;intros
  refine zW .nil zG zJ ?_
  rfl
def outK(o:Ord'):List Int:=[o.hour,o.index]
theorem outCmp_c(x y:Ord')(σ:List Ent):SCall prog 175 [ordV x,ordV y] σ (Is (.int .i64 (pV (outK x) (outK y))) σ):=by
 refine zZ func175 rfl (by simp) ?_
 refine yW ?_;intros
 rename Nat=>by_;revert by_;rename Nat=>bx;revert bx
 intro bx by_
 refine yB (fun e=>e=.cells bx (ordC x) 95∨e=.cells by_ (ordC y) 95) [4,9,10,11] 12 rfl (by kernel_rfl) rfl ?_
 simp only[List.take_succ_cons,List.take_zero,List.drop_succ_cons,List.drop_zero]
 repeat' first|(refine zgp (.call {callee:=.value (.func 43),args:=_,argTypes:=_}) ?_;refine yN rfl rfl (zQ rfl rfl (zX (by kernel_rfl)) (cmpI_c _ _ _)) ?_;rintro _ _ ⟨⟩;refine⟨zks,?_⟩)|(refine zgp (.buildSlice _ _ _) ?_;refine xH rfl rfl (vF (xT rfl rfl (by decide) rfl rfl zck)) ?_)|(refine zgp (.call {callee:=.value (.func 124),args:=_,argTypes:=_}) ?_;refine yN rfl rfl (zQ rfl rfl (zX (by kernel_rfl)) (firstT_c [wQ x.hour y.hour,wQ x.index y.index] (by simp) _)) ?_;rintro _ _ ⟨⟩;refine⟨zks,?_⟩)|(refine yX ?_;intros)|fail
 all_goals
  refine zS (σ3:=σ) .nil zG zJ ?_
  exact zY .mk
theorem sortOut_c{l:List Ord'}{v:Value}{σ:List Ent}{F:Ent→List Ent}(hb:l.length≤4000000)(hu: ∀e',Upd σ (.row v 95 4 (l.map ordC)) e' (F e')):
  SCall prog 122 [.slv v,.fn (.func 175) [] []] σ (fun r τ=>r=.tup []∧ ∃S:List Ord',S.Perm l∧S.Pairwise (fun a b=>ltOf (fun a b=>pV (outK a) (outK b)) b a=false)∧τ=F (.row v 95 4 (S.map ordC))):=
 sortK_in Tryz.sortOrd (enc:=ordE) (av:=ordC) (by decide) (fun w=>(xE (b:=true) (sz:=4) rfl w).1) (fun w=>(xE (b:=true) (sz:=4) rfl w).2) (fun _=>rfl)
  (fun x v hv=>by simp only[ordE,List.mem_cons,List.not_mem_nil,or_false]at hv;rcases hv with rfl|rfl|rfl|rfl<;>rfl)
  (fun M x vs h=>by subst h;have:=(ord_rel M [x] _).2 rfl;simpa using this) ord_rel (fun _=>rfl) (swo_lex (n:=2) fun _=>rfl)
  (enters_of func175 (by kernel_rfl) rfl) (fun x y=>outCmp_c x y []) (by omega) hu
def qF(C:List Clm):BkF:=C.foldl (fun f c=>vY f (K2 c.farm c.hour) c.litres) (fun _=>none)
theorem sumC_int: ∀{C:List Clm} {f:BkF},IntV f→IntV (C.foldl (fun f c=>vY f (K2 c.farm c.hour) c.litres) f)
 |[],_,h=>h
 |_::C,_,h=>sumC_int (C:=C) (h.add _ _)
theorem sumC_le{B:Int}: ∀{C:List Clm} {f:BkF},(∀c∈C,1≤c.litres∧c.litres≤1073741824)→(∀q,0≤zV f q∧zV f q≤B)→ ∀q,0≤zV (C.foldl (fun f c=>vY f (K2 c.farm c.hour) c.litres) f) q∧zV (C.foldl (fun f c=>vY f (K2 c.farm c.hour) c.litres) f) q≤B+C.length*1073741824
 |[],f,_,h,q=>by simpa using h q
 |c::C,f,ho,h,q=>by
  obtain⟨h1,h2⟩:=ho c (by simp)
  have:=sumC_le (B:=B+1073741824) (C:=C) (f:=vY f (K2 c.farm c.hour) c.litres) (fun x hx=>ho x (by simp[hx])) (fun q=>by
   rw[wD]
   have:=h q
   split<;>omega) q
  simp only[List.foldl_cons,List.length_cons]
  omega
theorem sumC_key{P:List KL→Prop}: ∀{C:List Clm} {f:BkF},(∀c∈C,P (K2 c.farm c.hour))→(∀k x,f k=some x→P k)→ ∀k x,C.foldl (fun f c=>vY f (K2 c.farm c.hour) c.litres) f k=some x→P k
 |[],_,_,h,k,x,hk=>h k x hk
 |c::C,f,hc,h,k,x,hk=>sumC_key (C:=C) (fun y hy=>hc y (by simp[hy])) (fun k x hk=>by
  rcases addK_some hk with rfl|hk
  ·exact hc c (by simp)
  ·exact h k x hk) k x hk
def uA(g:BkF)(h a:Nat):Ord':=⟨h,a,zV g (K2 a h),true⟩
def outsL(H F:Nat)(g:BkF):List Ord':=(List.range H).flatMap fun h:Nat=>(List.range F).filterMap fun a:Nat=>if (g (K2 a h)).isSome then some (uA g h a)else none
theorem outs_mem{H F:Nat}{g:BkF}{o:Ord'}:o∈outsL H F g↔ ∃h a:Nat,h<H∧a<F∧(g (K2 a h)).isSome=true∧o=uA g h a:=by
 unfold outsL
 simp only[List.mem_flatMap,List.mem_range,List.mem_filterMap]
 constructor
 ·rintro⟨r,hr,a,ha,h⟩
  split at h
  ·rename_i hv;cases h;exact⟨r,a,hr,ha,hv,rfl⟩
  ·cases h
 ·rintro⟨r,a,hr,ha,hv,rfl⟩
  exact⟨r,hr,a,ha,by rw[if_pos hv]⟩
theorem outs_up(H F:Nat)(g:BkF):(outsL H F g).Pairwise fun a b=>pF (outK a) (outK b)=true:=by
 have e: ∀r a s b:Nat,pF (outK (uA g r a)) (outK (uA g s b))=true↔r<s∨r=s∧a<b:=fun r a s b=>by
  simp only[outK,uA,pF]
  by_cases h1:(r:Int)=s
  ·rw[if_pos h1]
   by_cases h2:(a:Int)=b
   ·rw[if_pos h2];simp;omega
   ·rw[if_neg h2,decide_eq_true_eq];omega
  ·rw[if_neg h1,decide_eq_true_eq];omega
 unfold outsL
 rw[List.pairwise_flatMap]
 refine⟨fun r _=>?_,?_⟩
 ·refine List.Pairwise.filterMap (R:=(· < ·)) _ (fun a b hab x hx y hy=>?_) List.pairwise_lt_range
  split at hx<;>cases hx
  split at hy<;>cases hy
  exact(e _ _ _ _).2 (.inr ⟨rfl,hab⟩)
 ·refine List.pairwise_lt_range.imp fun {r s} hrs x hx y hy=>?_
  simp only[List.mem_filterMap]at hx hy
  obtain⟨a,_,hx⟩:=hx
  obtain⟨b,_,hy⟩:=hy
  split at hx<;>cases hx
  split at hy<;>cases hy
  exact(e _ _ _ _).2 (.inl hrs)
def tL(d:Dis)(C:List Clm):List Ord':=outsL d.hours.toNat d.F.length (qF C)
open Go.Shelf Go.Sort Go.RowKit Go.WideMaps
structure GathO(H F:Nat)(g:BkF)(hit:List KL→Prop)(L:List Ord'):Prop where
 nd:L.Nodup
 of: ∀o∈L,∃h a:Nat,h<H∧a<F∧(g (K2 a h)).isSome=true∧o=uA g h a∧hit (K2 a h)
 all: ∀h a:Nat,hit (K2 a h)→(g (K2 a h)).isSome=true→uA g h a∈L
theorem GathO.nil(H F:Nat)(g:BkF)(es:Array MapEntry):GathO H F g (HitK es #[]) []:=⟨.nil,fun _ h=>(nomatch h),fun _ _ h=>absurd h (HitK.none _ _)⟩
theorem GathO.step{H F:Nat}{g:BkF}{es:Array MapEntry}{seen:Array Nat}{e:MapEntry}{h a:Nat}{L:List Ord'}(hl:GathO H F g (HitK es seen) L)(hh:h<H)(ha:a<F)(hv:(g (K2 a h)).isSome=true)(he:e∈es.toList)(hk:e.key=keyL (K2 a h))
  (hn:¬ HitK es seen (K2 a h)) (hp: ∀q,HitK es (seen.push e.born) q→HitK es seen q∨q=K2 a h):GathO H F g (HitK es (seen.push e.born)) (L++[uA g h a]):=by
 have hs:=HitK.self (seen:=seen) he hk
 refine⟨?_,fun x hx=>?_,fun s b hh2 hv2=>?_⟩
 ·rw[List.nodup_append]
  refine⟨hl.nd,by simp,fun x hx y hy e=>?_⟩
  simp only[List.mem_singleton]at hy
  subst hy e
  obtain⟨s,b,_,_,_,h5,h6⟩:=hl.of _ hx
  have e1:(h:Int)=s:=congrArg Ord'.hour h5
  have e2:(a:Int)=b:=congrArg Ord'.index h5
  rw[e1,e2]at hn
  exact hn h6
 ·rcases List.mem_append.1 hx with hx|hx
  ·obtain⟨s,b,h1,h2,h3,h4,h5⟩:=hl.of x hx
   exact⟨s,b,h1,h2,h3,h4,h5.keep⟩
  ·simp only[List.mem_singleton]at hx
   exact⟨h,a,hh,ha,hv,hx,hs⟩
 ·rcases hp _ hh2 with h1|h1
  ·exact List.mem_append_left _ (hl.all s b h1 hv2)
  ·obtain⟨e1,e2⟩:=K2_inj.1 h1
   obtain rfl:s=h:=by omega
   obtain rfl:b=a:=by omega
   simp
theorem GathO.done{H F:Nat}{g:BkF}{hit:List KL→Prop}{L S:List Ord'}(h:GathO H F g hit L)(hall: ∀q x,g q=some x→hit q)(hS:S.Perm L)(hs:S.Pairwise fun a b=>ltOf (fun a b=>pV (outK a) (outK b)) b a=false):S=outsL H F g:=by
 refine sorted_lex (n:=2) (ks:=outK) (fun _=>rfl) hs (outs_up H F g) (hS.trans ?_)
 rw[List.perm_ext_iff_of_nodup h.nd (pair_nodup (outs_up H F g))]
 intro x
 rw[outs_mem]
 constructor
 ·intro hx
  obtain⟨r,a,h1,h2,h3,h4,_⟩:=h.of x hx
  exact⟨r,a,h1,h2,h3,h4⟩
 ·rintro⟨r,a,h1,h2,h3,rfl⟩
  refine h.all r a ?_ h3
  cases hg:g (K2 a r) with
  |none=>rw[hg]at h3;cases h3
  |some y=>exact hall _ _ hg
theorem outs_len(H F:Nat)(g:BkF):(outsL H F g).length≤H*F:=by
 unfold outsL
 rw[List.length_flatMap]
 have h: ∀l:List Nat,(l.map fun r:Nat=>((List.range F).filterMap fun a:Nat=>if (g (K2 a r)).isSome then some (uA g r a)else none).length).sum≤l.length*F:=by
  intro l
  induction l with
  |nil=>simp
  |cons r l ih=>
   rw[List.map_cons,List.sum_cons,List.length_cons,Nat.add_mul]
   have:=List.length_filterMap_le (fun a:Nat=>if (g (K2 a r)).isSome then some (uA g r a)else none) (List.range F)
   rw[List.length_range]at this
   omega
 have:=h (List.range H)
 rwa [List.length_range]at this
theorem gathO_len{H F:Nat}{g:BkF}{hit:List KL→Prop}{L:List Ord'}(h:GathO H F g hit L):L.length≤H*F:=by
 refine Nat.le_trans (List.Nodup.length_le_of_subset h.nd fun x hx=>?_) (outs_len H F g)
 obtain⟨r,a,h1,h2,h3,h4,_⟩:=h.of x hx
 exact outs_mem.2 ⟨r,a,h1,h2,h3,h4⟩
end Go.Proofs.YtaoaafdommlhcaaGreat
