/- Parts of the proof that belong together: Ka Kb Kc. -/
import Derived.Test.YtaoaafdommlhcaaGreatHA07
import Derived.Test.YtaoaafdommlhcaaGreatHA13
import Derived.Test.YtaoaafdommlhcaaGreatHA15
import Derived.Test.YtaoaafdommlhcaaGreatHA16
set_option maxRecDepth 10000
set_option maxHeartbeats 8000000
set_option linter.unusedSimpArgs false
set_option linter.unusedVariables false
set_option autoImplicit false
open Go.Proofs.Tryz
namespace Go.Proofs.YtaoaafdommlhcaaGreat
theorem divisor_r(a b:Nat)(ha:a≤4611686018427387904)(hb:b≤4611686018427387904)(σ:List Ent):SCall prog 281 [.int .i64 a,.int .i64 b] σ (Is (.int .i64 (Nat.gcd a b:Nat)) σ):=by
 refine zZ func281 rfl (by simp) ?_
 refine yW ?_;intros
 refine zU (fun(z:Nat×Nat)=>(⟨[(0,.int .i64 (z.1:Nat)),(1,.int .i64 (z.2:Nat))],σ,[],f281.ntmps⟩:St)) (fun z=>z.1≤4611686018427387904∧z.2≤4611686018427387904∧Nat.gcd z.1 z.2=Nat.gcd a b) (fun z=>z.2) (a,b) (⟨ha,hb,rfl⟩) (St.le_of zC yY) ?_
 intro z hI
 obtain⟨p,q⟩:=z
 obtain⟨hI1,hI2,hI3⟩:=hI
 dsimp only at hI1 hI2 hI3 ⊢
 by_cases hq:q=0
 ·subst hq
  rw[Nat.gcd_zero_right]at hI3
  rw[←hI3]
  clear hI3
  refine yW ?_;intros
  refine zW .nil zG zJ ?_
  rfl
 ·have hlt:p%q<q:=Nat.mod_lt _ (by omega)
  have hg:Nat.gcd q (p%q)=Nat.gcd a b:=by rw[←hI3,Nat.gcd_comm p q,Nat.gcd_rec q p,Nat.gcd_comm]
  clear hI3
  repeat' first|(refine zB ?_;intros)|(refine xB ?_;intros)|(refine yV ?_ ?_<;>(intro z;cases z with|_ h)<;>intro hp)|exact nl|fail
  exact⟨(q,p%q),⟨hI2,by omega,hg⟩,hlt,(St.le_of zC zJ)⟩
theorem size_r(n:Int)(h: -4611686018427387904≤n∧n≤4611686018427387904)(σ:List Ent):SCall prog 282 [.int .i64 n] σ (Is (.int .i64 (n.natAbs:Nat)) σ):=by
 refine zZ func282 rfl (by simp) ?_
 by_cases hn:n<0
 ·refine yW ?_;intros
  all_goals
   refine zW .nil zG zJ ?_
   exact congrArg (AV.int .i64) (by omega)
 ·refine yW ?_;intros
  all_goals
   refine zW .nil zG zJ ?_
   exact congrArg (AV.int .i64) (by omega)
theorem valid_r(r:Rt2)(σ:List Ent):SCall prog 256 [rtV r] σ (Is (.bool (pQ r)) σ):=by
 refine zZ func256 rfl (by simp) ?_
 by_cases h1:1≤r.d∧r.d≤1073741824∧ -1073741824≤r.n∧r.n≤1073741824
 ·have hm:=size_r r.n (by omega)
  obtain⟨D,hD⟩: ∃D:Nat,r.d=D:=⟨r.d.toNat,by omega⟩
  have hd:=divisor_r r.n.natAbs D (by omega) (by omega)
  obtain⟨g,hgg⟩: ∃g,Nat.gcd r.n.natAbs D=g:=⟨_,rfl⟩
  have hok:pQ r=decide (g=1):=by unfold pQ;rw[decide_eq_true h1,Bool.true_and,hD,Int.toNat_natCast];exact decide_eq_decide.2 (by rw[hgg])
  rw[hgg]at hd
  rw[hok]
  clear hgg
  obtain⟨n,d⟩:=r
  dsimp only at hD h1 hm hd ⊢
  subst hD
  clear hok
  repeat' first|(apply zwX;exact zD;rfl;rfl;intro σ' hl;refine zL ?_;first|exact hm _|exact hd _)|(refine xV ?_;and_intros<;>first|exact nl|intros)|refine zTd ?_|cases ‹BV _ _›|fail
  all_goals
   refine zW .nil zG yY (zN ?_)
   rw[Bool.eq_iff_iff]
   simp
   omega
 ·have hok:pQ r=false:=by unfold pQ;rw[decide_eq_false h1,Bool.false_and]
  rw[hok]
  clear hok
  by_cases q1:1≤r.d
  ·by_cases q2:r.d≤1073741824
   ·by_cases q3: -1073741824≤r.n
    ·have q4:¬ r.n≤1073741824:=fun h=>h1 ⟨q1,q2,q3,h⟩
     repeat' first|(refine xV ?_;and_intros<;>first|exact nl|intros)|refine zTd ?_|fail
     all_goals
      refine zW .nil zG yY (zN ?_)
      simp
    ·repeat' first|(refine xV ?_;and_intros<;>first|exact nl|intros)|refine zTd ?_|fail
     all_goals
      refine zW .nil zG yY (zN ?_)
      simp
   ·repeat' first|(refine xV ?_;and_intros<;>first|exact nl|intros)|refine zTd ?_|fail
    all_goals
     refine zW .nil zG yY (zN ?_)
     simp
  ·repeat' first|(refine xV ?_;and_intros<;>first|exact nl|intros)|refine zTd ?_|fail
   all_goals
    refine zW .nil zG yY (zN ?_)
    simp
theorem checkR_r(r:Rt2)(σ:List Ent):SCall prog 295 [rtV r] σ (Is (.int .i64 (if pQ r then 0 else 120)) σ):=by
 refine zZ func295 rfl (by simp) ?_
 have hv:=valid_r r
 cases ho:pQ r with
 |true=>
  rw[ho]at hv
  repeat' first|(apply yQ;exact zD;rfl;rfl;refine zL ?_;exact hv _)|(refine xV ?_;and_intros<;>first|exact nl|intros)|cases ‹BV _ _›|exact wG|fail
  refine zW .nil zG zJ ?_
  rfl
 |false=>
  rw[ho]at hv
  repeat' first|(apply yQ;exact zD;rfl;rfl;refine zL ?_;exact hv _)|(refine xV ?_;and_intros<;>first|exact nl|intros)|cases ‹BV _ _›|exact wG|fail
  refine zW .nil zG zJ ?_
  rfl
theorem both_r(a b:Rt2)(σ:List Ent):SCall prog 283 [rtV a,rtV b] σ (Is (.bool (pQ a&&pQ b)) σ):=by
 refine zZ func283 rfl (by simp) ?_
 have h1:=valid_r a
 have h2:=valid_r b
 cases ha:pQ a with
 |true=>
  rw[ha]at h1
  cases hb:pQ b with
  |true=>
   rw[hb]at h2
   repeat' first|(apply yQ;exact zD;rfl;rfl;refine zL ?_;first|exact h1 _|exact h2 _)|(refine xV ?_;and_intros<;>first|exact nl|intros)|cases ‹BV _ _›|fail
   refine zW .nil zG yY (zN ?_)
   rfl
  |false=>
   rw[hb]at h2
   repeat' first|(apply yQ;exact zD;rfl;rfl;refine zL ?_;first|exact h1 _|exact h2 _)|(refine xV ?_;and_intros<;>first|exact nl|intros)|cases ‹BV _ _›|fail
   refine zW .nil zG yY (zN ?_)
   rfl
 |false=>
  rw[ha]at h1
  clear h2
  repeat' first|(apply yQ;exact zD;rfl;rfl;refine zL ?_;exact h1 _)|(refine xV ?_;and_intros<;>first|exact nl|intros)|fail
  refine zW .nil zG yY (zN ?_)
  simp
theorem less_r(a b:Rt2)(ha:pQ a=true)(hb:pQ b=true)(σ:List Ent):SCall prog 298 [rtV a,rtV b] σ (Is (.bool (decide (a.n*b.d<b.n*a.d))) σ):=by
 refine zZ func298 rfl (by simp) ?_
 obtain⟨⟨a1,a2,a3,a4⟩,_⟩:=wC ha
 obtain⟨⟨b1,b2,b3,b4⟩,_⟩:=wC hb
 have m1:=wV (a:=a.n) (b:=b.d) ⟨a3,a4⟩ (by omega)
 have m2:=wV (a:=b.n) (b:=a.d) ⟨b3,b4⟩ (by omega)
 obtain⟨x,hx⟩: ∃x,a.n*b.d=x:=⟨_,rfl⟩
 obtain⟨y,hy⟩: ∃y,b.n*a.d=y:=⟨_,rfl⟩
 rw[hx,hy]
 rw[hx]at m1
 rw[hy]at m2
 clear ha hb a1 a2 a3 a4 b1 b2 b3 b4
 repeat' first|(refine zB ?_;intros)|(refine xB ?_;intros)|cases ‹BV _ _›|fail
 all_goals
  refine zW .nil zG yY (zN ?_)
  subst hx hy
  rfl
theorem cmpR_r(a b:Rt2)(σ:List Ent):SCall prog 296 [rtV a,rtV b] σ (Is (.tup [.int .i64 (if pQ a&&pQ b then wQ (a.n*b.d) (b.n*a.d)else 0),.int .i64 (if pQ a&&pQ b then 0 else 120)]) σ):=by
 refine zZ func296 rfl (by simp) ?_
 have hB:=both_r a b
 cases hab:pQ a&&pQ b with
 |false=>
  rw[hab]at hB
  repeat' first|(apply yQ;exact zD;rfl;rfl;refine zL ?_;exact hB _)|(refine xV ?_;and_intros<;>first|exact nl|intros)|cases ‹BV _ _›|exact wG|fail
  refine zW .nil zG zJ ?_
  rfl
 |true=>
  rw[hab]at hB
  simp only[Bool.and_eq_true]at hab
  have h1:=less_r a b hab.1 hab.2
  have h2:=less_r b a hab.2 hab.1
  rw[if_pos rfl,if_pos rfl]
  by_cases k1:a.n*b.d<b.n*a.d
  ·rw[decide_eq_true k1]at h1
   have e:wQ (a.n*b.d) (b.n*a.d)= -1:=if_pos k1
   rw[e]
   repeat' first|(apply yQ;exact zD;rfl;rfl;refine zL ?_;first|exact hB _|exact h1 _)|(refine xV ?_;and_intros<;>first|exact nl|intros)|cases ‹BV _ _›|exact wG|fail
   refine zW .nil zG zJ ?_
   rfl
  ·rw[decide_eq_false k1]at h1
   by_cases k2:b.n*a.d<a.n*b.d
   ·rw[decide_eq_true k2]at h2
    have e:wQ (a.n*b.d) (b.n*a.d)=1:=by unfold wQ;rw[if_neg k1,if_pos k2]
    rw[e]
    repeat' first|(apply yQ;exact zD;rfl;rfl;refine zL ?_;first|exact hB _|exact h1 _|exact h2 _)|(refine xV ?_;and_intros<;>first|exact nl|intros)|cases ‹BV _ _›|exact wG|fail
    refine zW .nil zG zJ ?_
    rfl
   ·rw[decide_eq_false k2]at h2
    have e:wQ (a.n*b.d) (b.n*a.d)=0:=by unfold wQ;rw[if_neg k1,if_neg k2]
    rw[e]
    repeat' first|(apply yQ;exact zD;rfl;rfl;refine zL ?_;first|exact hB _|exact h1 _|exact h2 _)|(refine xV ?_;and_intros<;>first|exact nl|intros)|cases ‹BV _ _›|exact wG|fail
    refine zW .nil zG zJ ?_
    rfl
theorem fdivS{m d:Int}(hm: -1152921504606846976≤m∧m≤1152921504606846976)(hd:1≤d): -1152921504606846976≤m.fdiv d∧m.fdiv d≤1152921504606846976:=by
 rw[Int.fdiv_eq_ediv_of_nonneg _ (by omega)]
 constructor
 ·refine Int.le_ediv_of_mul_le (by omega) ?_
  have:(-1152921504606846976:Int)*d≤ -1152921504606846976:=by omega
  omega
 ·refine Int.ediv_le_of_le_mul (by omega) ?_
  have:(1152921504606846976:Int)≤1152921504606846976*d:=by omega
  omega
theorem floor_r(n d:Int)(hn: -1152921504606846976≤n∧n≤1152921504606846976)(hd:1≤d∧d≤1073741824)(σ:List Ent):SCall prog 258 [.int .i64 n,.int .i64 d] σ (Is (.int .i64 (n.fdiv d)) σ):=by
 refine zZ func258 rfl (by simp) ?_
 obtain⟨m,hm⟩: ∃m,n.tmod d=m:=⟨_,rfl⟩
 obtain⟨q,hq⟩: ∃q,n.tdiv d=q:=⟨_,rfl⟩
 have hml: -d<m∧m<d:=by
  rw[←hm]
  exact⟨by have:=Int.lt_tmod_of_pos n (show 0<d by omega);omega,Int.tmod_lt_of_pos n (by omega)⟩
 have h1:n=d*q+m:=by rw[←hm,←hq];exact(Int.mul_tdiv_add_tmod n d).symm
 have hql: -1152921504606846976≤q∧q≤1152921504606846976:=by
  have h2:q.natAbs≤n.natAbs:=by rw[←hq,Int.natAbs_tdiv];exact Nat.div_le_self _ _
  omega
 have hf:n.fdiv d=if m<0 then q-1 else q:=by
  rw[Int.fdiv_eq_ediv_of_nonneg _ (by omega)]
  split
  ·have e:d*(q-1)=d*q-d:=by rw[Int.mul_sub,Int.mul_one]
   exact((Int.ediv_emod_unique (a:=n) (b:=d) (q:=q-1) (r:=m+d) (by omega)).2 ⟨by omega,by omega,by omega⟩).1
  ·exact((Int.ediv_emod_unique (a:=n) (b:=d) (q:=q) (r:=m) (by omega)).2 ⟨by omega,by omega,by omega⟩).1
 rw[hf]
 clear h1 hf
 by_cases hneg:m<0
 ·rw[if_pos hneg]
  repeat' first|(refine zB ?_;intros)|(apply qX;exact zD;rfl;rfl;first|((exact g_rem rfl rfl (by omega) hm))|((exact g_quo rfl rfl (by omega) hq (by omega))))|(refine yV ?_ ?_<;>(intro z;cases z with|_ h)<;>intro hp)|exact nl|fail
  refine zW .nil zG zJ ?_
  rfl
 ·rw[if_neg hneg]
  repeat' first|(refine zB ?_;intros)|(apply qX;exact zD;rfl;rfl;first|((exact g_rem rfl rfl (by omega) hm))|((exact g_quo rfl rfl (by omega) hq (by omega))))|(refine yV ?_ ?_<;>(intro z;cases z with|_ h)<;>intro hp)|exact nl|fail
  refine zW .nil zG zJ ?_
  rfl
theorem times_r(r:Rt2)(n:Int)(hr:pQ r=true)(hn: -1073741824≤n∧n≤1073741824)(σ:List Ent):SCall prog 219 [rtV r,.int .i64 n] σ (Is (.tup [.int .i64 ((r.n*n).fdiv r.d),.int .i64 (-((-r.n*n).fdiv r.d)),.int .i64 0]) σ):=by
 refine zZ func219 rfl (by simp) ?_
 have hv:=valid_r r
 rw[hr]at hv
 obtain⟨⟨b1,b2,b3,b4⟩,_⟩:=wC hr
 have m1:=wV (a:=r.n) (b:=n) ⟨b3,b4⟩ hn
 have m2:=wV (a:= -r.n) (b:=n) (by omega) hn
 have d1:=floor_r (r.n*n) r.d m1 (by omega)
 have d2:=floor_r (-r.n*n) r.d m2 (by omega)
 have hres: -1152921504606846976≤(-r.n*n).fdiv r.d∧(-r.n*n).fdiv r.d≤1152921504606846976:=fdivS m2 (by omega)
 clear hr
 repeat' first|(refine zB ?_;intros)|(refine xB ?_;intros)|refine zTd ?_|((first|(apply yQ;exact zD;rfl;rfl)|(apply zwX;exact zD;rfl;rfl;intro σ' hl));refine zL ?_;first|exact hv _|exact d1 _|exact d2 _)|(refine yV ?_ ?_<;>(intro z;cases z with|_ h)<;>intro hp)|exact nl|cases ‹BV _ _›|exact wG|fail
 refine zW .nil zG zJ ?_
 rfl
theorem tmod_neg2(p q:Nat):(-(p:Int)).tmod (-(q:Int))= -((p%q:Nat):Int):=by
 rw[Int.tmod_neg,Int.neg_tmod];rfl
theorem tdiv_neg2(p q:Nat):(-(p:Int)).tdiv (-(q:Int))=((p/q:Nat):Int):=by
 rw[Int.neg_tdiv_neg];rfl
theorem makeR_r(n d:Int)(hn: -4611686018427387904≤n∧n≤4611686018427387904)(hd:1≤d∧d≤4611686018427387904)(σ:List Ent):SCall prog 284 [.int .i64 n,.int .i64 d] σ (Is (.tup [rtV (makeR n d).1,.int .i64 (makeR n d).2]) σ):=by
 refine zZ func284 rfl (by simp) ?_
 obtain⟨y,rfl⟩: ∃y:Nat,d=y:=⟨d.toNat,by omega⟩
 obtain⟨x,hx⟩: ∃x,n.natAbs=x:=⟨_,rfl⟩
 have hg:0<Nat.gcd x y:=Nat.gcd_pos_of_pos_right _ (by omega)
 have hmk:makeR n y=if max (x/Nat.gcd x y) (y/Nat.gcd x y)>1073741824 then (⟨0,0⟩,2)else (⟨if n<0 then-((x/Nat.gcd x y:Nat):Int)else ((x/Nat.gcd x y:Nat):Int),((y/Nat.gcd x y:Nat):Int)⟩,0):=by
  unfold makeR
  rw[hx,Int.natAbs_natCast]
 rw[hmk]
 clear hmk
 obtain⟨g,hgg⟩: ∃g,Nat.gcd x y=g:=⟨_,rfl⟩
 rw[hgg]at hg ⊢
 have hxl:x/g≤x:=Nat.div_le_self _ _
 have hyl:y/g≤y:=Nat.div_le_self _ _
 have hd1:g=1→x/g=x∧y/g=y:=fun e=>by rw[e,Nat.div_one,Nat.div_one];exact⟨rfl,rfl⟩
 repeat' first|(show EX _ _ (Code.seq (Code.region 4 _ _) _) _ _;refine Stuck.out ?_)|(refine vW ?_;intros)|(refine yV ?_ ?_<;>(intro z;cases z with|_ h)<;>intro hp)|exact nl|fail
 all_goals try refine Stuck.mk ?_
 rename Nat=>b4;revert b4
 intro b4
 refine pG (fun(p:{X:Int//X= -(x:Int)})=>⟨[(0,.int .i64 n),(1,.int .i64 (y:Nat)),(4,.ptr b4 0),(5,.int .i64 0),(6,.int .i64 p.1)],.cells b4 [.int .i64 0,.int .i64 0] 105::σ,[],f284.ntmps⟩) ?_ ?_
 ·by_cases h0:0<n
  ·refine yW ?_;intros
   exact⟨⟨-n,by omega⟩,_,.refl _,(St.le_of zC zJ)⟩
  ·refine yW ?_;intros
   exact⟨⟨n,by omega⟩,_,.refl _,(St.le_of zC zJ)⟩
 rintro⟨X,hX⟩
 dsimp only
 subst hX
 refine yW ?_;intros
 refine zU (fun(z:Nat×Nat)=>(⟨[(0,.int .i64 n),(1,.int .i64 (y:Nat)),(4,.ptr b4 0),(5,.int .i64 0),(6,.int .i64 (-(x:Nat))),(7,.int .i64 (-(y:Nat))),(8,.int .i64 (-(z.1:Nat))),(9,.int .i64 (-(z.2:Nat)))],.cells b4 [.int .i64 0,.int .i64 0] 105::σ,[],f284.ntmps⟩:St)) (fun z=>z.1≤4611686018427387904∧z.2≤4611686018427387904∧Nat.gcd z.1 z.2=g) (fun z=>z.2) (x,y) (⟨by omega,by omega,hgg⟩) (St.le_of zC yY) ?_
 intro z hI
 obtain⟨p,q⟩:=z
 obtain⟨hI1,hI2,hI3⟩:=hI
 dsimp only at hI1 hI2 hI3 ⊢
 by_cases hq:1<q
 ·have hlt:p%q<q:=Nat.mod_lt _ (by omega)
  have hg2:Nat.gcd q (p%q)=g:=by rw[←hI3,Nat.gcd_comm p q,Nat.gcd_rec q p,Nat.gcd_comm]
  have ht:=tmod_neg2 p q
  generalize p%q=r at hlt hg2 ht
  clear hI3 hgg hd1 hxl hyl
  repeat' first|(refine zB ?_;intros)|(apply qX;exact zD;rfl;rfl;(exact g_rem rfl rfl (by omega) ht))|(refine xB ?_;intros)|(refine yV ?_ ?_<;>(intro z;cases z with|_ h)<;>intro hp)|exact nl|fail
  exact⟨(q,r),⟨hI2,by omega,hg2⟩,hlt,(St.le_of zC zJ)⟩
 ·have hgv:(q=1∧g=1)∨(q=0∧g=p):=by
   rcases (by omega:q=0∨q=1)with e|e
   ·subst e;rw[Nat.gcd_zero_right]at hI3;exact .inr ⟨rfl,hI3.symm⟩
   ·subst e;rw[Nat.gcd_one_right]at hI3;exact .inl ⟨rfl,hI3.symm⟩
  repeat' first|(show EX _ _ (Code.seq (Code.region 15 _ _) _) _ _;refine Stuck.out ?_)|(refine vW ?_;intros)|(refine yV ?_ ?_<;>(intro z;cases z with|_ h)<;>intro hp)|exact nl|fail
  all_goals try refine Stuck.mk ?_
  refine pG (fun(_:Unit)=>⟨[(0,.int .i64 n),(1,.int .i64 (y:Nat)),(4,.ptr b4 0),(5,.int .i64 0),(6,.int .i64 (-(x:Nat))),(7,.int .i64 (-(y:Nat))),(8,.int .i64 (-(g:Nat)))],.cells b4 [.int .i64 0,.int .i64 0] 105::σ,[],f284.ntmps⟩) ?_ ?_
  ·rcases hgv with⟨rfl,rfl⟩|⟨rfl,rfl⟩
   ·refine yW ?_;intros
    exact⟨(),_,.refl _,(St.le_of zC zJ)⟩
   ·refine yW ?_;intros
    exact⟨(),_,.refl _,(St.le_of zC zJ)⟩
  intro u
  clear u hgv hI1 hI2 hI3 hq hgg
  have t1:=tdiv_neg2 x g
  have t2:=tdiv_neg2 y g
  have hg0: -((g:Nat):Int)≠0:=by omega
  generalize x/g=A at t1 hxl hd1 ⊢
  generalize y/g=B at t2 hyl hd1 ⊢
  by_cases hbig:max A B>1073741824
  ·rw[if_pos hbig]
   by_cases hg1:g=1
   ·obtain⟨rfl,rfl⟩:=hd1 hg1
    subst hg1
    by_cases hx2:1073741824<A
    ·refine yW ?_;intros
     refine zW .nil zG zJ ?_
     rfl
    ·have hy2:1073741824<B:=by omega
     refine yW ?_;intros
     refine zW .nil zG zJ ?_
     rfl
   ·clear hd1
    by_cases hx2:1073741824<A
    ·repeat' first|(refine zB ?_;intros)|(apply qX;exact zD;rfl;rfl;first|((exact g_quo rfl rfl hg0 t1 (by omega)))|((exact g_quo rfl rfl hg0 t2 (by omega))))|(refine xB ?_;intros)|(refine yV ?_ ?_<;>(intro z;cases z with|_ h)<;>intro hp)|exact nl|fail
     refine zW .nil zG zJ ?_
     rfl
    ·have hy2:1073741824<B:=by omega
     repeat' first|(refine zB ?_;intros)|(apply qX;exact zD;rfl;rfl;first|((exact g_quo rfl rfl hg0 t1 (by omega)))|((exact g_quo rfl rfl hg0 t2 (by omega))))|(refine xB ?_;intros)|(refine yV ?_ ?_<;>(intro z;cases z with|_ h)<;>intro hp)|exact nl|fail
     refine zW .nil zG zJ ?_
     rfl
  ·rw[if_neg hbig]
   have e2:decide (((y:Nat):Int)<0)=false:=decide_eq_false (by omega)
   by_cases hn0:n<0
   ·rw[if_pos hn0]
    have e1:decide (n<0)=true:=decide_eq_true hn0
    by_cases hg1:g=1
    ·obtain⟨rfl,rfl⟩:=hd1 hg1
     subst hg1
     repeat' first|(refine zB ?_;intros)|(apply qX;exact zD;rfl;rfl;first|((exact g_quo rfl rfl hg0 t1 (by omega)))|((exact g_quo rfl rfl hg0 t2 (by omega))))|(refine xB ?_;intros)|(refine yV ?_ ?_<;>(intro z;cases z with|_ h)<;>intro hp)|exact nl|cases ‹BV _ _›|fail
     ·refine zW .nil zG zJ ?_
      rfl
     ·exfalso
      rw[e1,e2]at h
      cases h
    ·clear hd1
     repeat' first|(refine zB ?_;intros)|(apply qX;exact zD;rfl;rfl;first|((exact g_quo rfl rfl hg0 t1 (by omega)))|((exact g_quo rfl rfl hg0 t2 (by omega))))|(refine xB ?_;intros)|(refine yV ?_ ?_<;>(intro z;cases z with|_ h)<;>intro hp)|exact nl|cases ‹BV _ _›|fail
     ·refine zW .nil zG zJ ?_
      rfl
     ·exfalso
      rw[e1,e2]at h
      cases h
   ·rw[if_neg hn0]
    have e1:decide (n<0)=false:=decide_eq_false hn0
    by_cases hg1:g=1
    ·obtain⟨rfl,rfl⟩:=hd1 hg1
     subst hg1
     repeat' first|(refine zB ?_;intros)|(apply qX;exact zD;rfl;rfl;first|((exact g_quo rfl rfl hg0 t1 (by omega)))|((exact g_quo rfl rfl hg0 t2 (by omega))))|(refine xB ?_;intros)|(refine yV ?_ ?_<;>(intro z;cases z with|_ h)<;>intro hp)|exact nl|cases ‹BV _ _›|fail
     ·exfalso
      rw[e1,e2]at h
      cases h
     ·refine zW .nil zG zJ ?_
      rfl
    ·clear hd1
     repeat' first|(refine zB ?_;intros)|(apply qX;exact zD;rfl;rfl;first|((exact g_quo rfl rfl hg0 t1 (by omega)))|((exact g_quo rfl rfl hg0 t2 (by omega))))|(refine xB ?_;intros)|(refine yV ?_ ?_<;>(intro z;cases z with|_ h)<;>intro hp)|exact nl|cases ‹BV _ _›|fail
     ·exfalso
      rw[e1,e2]at h
      cases h
     ·refine zW .nil zG zJ ?_
      rfl
theorem addR_r(a b:Rt2)(σ:List Ent):SCall prog 257 [rtV a,rtV b] σ (Is (.tup [rtV (xL a b).1,.int .i64 (xL a b).2]) σ):=by
 refine zZ func257 rfl (by simp) ?_
 have hB:=both_r a b
 unfold xL
 cases hab:pQ a&&pQ b with
 |false=>
  rw[hab]at hB
  repeat' first|(apply yQ;exact zD;rfl;rfl;refine zL ?_;exact hB _)|(refine xV ?_;and_intros<;>first|exact nl|intros)|cases ‹BV _ _›|exact wG|fail
  refine zW .nil zG zJ ?_
  rfl
 |true=>
  rw[hab]at hB
  simp only[Bool.and_eq_true]at hab
  obtain⟨⟨a1,a2,a3,a4⟩,_⟩:=wC hab.1
  obtain⟨⟨b1,b2,b3,b4⟩,_⟩:=wC hab.2
  have m1:=wV (a:=a.n) (b:=b.d) ⟨a3,a4⟩ (by omega)
  have m2:=wV (a:=b.n) (b:=a.d) ⟨b3,b4⟩ (by omega)
  have m3:=wV (a:=a.d) (b:=b.d) (by omega) (by omega)
  have m4:1≤a.d*b.d:=Int.mul_pos (by omega) (by omega)
  have hm:=makeR_r (a.n*b.d+b.n*a.d) (a.d*b.d) (by omega) (by omega)
  rw[if_pos rfl]
  clear hab
  repeat' first|(refine zB ?_;intros)|(refine xB ?_;intros)|(apply yQ;exact zD;rfl;rfl;refine zL ?_;first|exact hB _|exact hm _)|(refine yV ?_ ?_<;>(intro z;cases z with|_ h)<;>intro hp)|cases ‹BV _ _›|exact wG|fail
  refine zW .nil zG zJ ?_
  rfl
open Go.WideMaps
def inW(n lo hi:Int):Bool:=decide (lo≤n)&&decide (n≤hi)
theorem inW_t{n lo hi:Int}:inW n lo hi=true↔lo≤n∧n≤hi:=by unfold inW;simp
theorem wE(n lo hi:Int)(σ:List Ent):SCall prog 252 [.int .i64 n,.int .i64 lo,.int .i64 hi] σ (Is (.bool (inW n lo hi)) σ):=by
 refine zZ func252 rfl (by simp) ?_
 unfold inW
 by_cases h1:lo≤n
 ·by_cases h2:n≤hi
  ·refine yW ?_;intros
   all_goals
    refine zW .nil zG yY (zN ?_)
    simp[h1,h2]
  ·refine yW ?_;intros
   all_goals
    refine zW .nil zG yY (zN ?_)
    simp[h1,h2]
 ·refine yW ?_;intros
  all_goals
   refine zW .nil zG yY (zN ?_)
   simp[h1]
theorem shares_r(a b:Rt2)(σ:List Ent):SCall prog 292 [seepV a b] σ (Is (.bool (shareB a b)) σ):=by
 refine zZ func292 rfl (by simp) ?_
 have c1:=checkR_r a
 have c2:=checkR_r b
 have c3:=cmpR_r a b
 unfold shareB
 cases ha:pQ a with
 |false=>
  rw[ha]at c1
  clear c2 c3
  repeat' first|(refine zB ?_;intros)|(refine xB ?_;intros)|(apply yQ;exact zD;rfl;rfl;refine zL ?_;exact c1 _)|(refine yV ?_ ?_<;>(intro z;cases z with|_ h)<;>intro hp)|exact nl|fail
  refine zW .nil zG yY (zN ?_)
  rfl
 |true=>
  rw[ha]at c1 c3
  cases hb:pQ b with
  |false=>
   rw[hb]at c2
   clear c3
   repeat' first|(refine zB ?_;intros)|(refine xB ?_;intros)|(apply yQ;exact zD;rfl;rfl;refine zL ?_;first|exact c1 _|exact c2 _)|(refine yV ?_ ?_<;>(intro z;cases z with|_ h)<;>intro hp)|exact nl|exact wG|fail
   refine zW .nil zG yY (zN ?_)
   rfl
  |true=>
   rw[hb]at c2 c3
   have e:decide (a.n*b.d≤b.n*a.d)=decide (wQ (a.n*b.d) (b.n*a.d)≤0):=by rw[decide_eq_decide];exact cmpI_le.symm
   rw[e]
   clear e
   simp only[Bool.and_self,if_true]at c3
   generalize wQ (a.n*b.d) (b.n*a.d)=c at c3 ⊢
   by_cases k1:0≤a.n
   ·by_cases k2:c≤0
    ·repeat' first|(refine zB ?_;intros)|(refine xB ?_;intros)|(apply yQ;exact zD;rfl;rfl;refine zL ?_;first|exact c1 _|exact c2 _|exact c3 _)|(refine yV ?_ ?_<;>(intro z;cases z with|_ h)<;>intro hp)|exact nl|cases ‹BV _ _›|exact wG|fail
     all_goals
      refine zW .nil zG yY (zN ?_)
      simp[k1,k2]
    ·repeat' first|(refine zB ?_;intros)|(refine xB ?_;intros)|(apply yQ;exact zD;rfl;rfl;refine zL ?_;first|exact c1 _|exact c2 _|exact c3 _)|(refine yV ?_ ?_<;>(intro z;cases z with|_ h)<;>intro hp)|exact nl|exact wG|fail
     all_goals
      refine zW .nil zG yY (zN ?_)
      simp[k1,k2]
   ·repeat' first|(refine zB ?_;intros)|(refine xB ?_;intros)|(apply yQ;exact zD;rfl;rfl;refine zL ?_;first|exact c1 _|exact c2 _|exact c3 _)|(refine yV ?_ ?_<;>(intro z;cases z with|_ h)<;>intro hp)|exact nl|exact wG|fail
    all_goals
     refine zW .nil zG yY (zN ?_)
     simp[k1]
def reachW(x:Rch):Bool:=inW x.delay 1 16&&inW x.cap 0 1073741824&&inW x.bank 0 1099511627776&&inW x.siphon 0 (min x.cap x.bank)&&inW x.lo 0 x.hi&&decide (x.hi≤1073741824)&&shareB x.s0 x.s1
theorem reach_r(x:Rch)(σ:List Ent):SCall prog 280 [rchV x] σ (Is (.bool (reachW x)) σ):=by
 refine zZ func280 rfl (by simp) ?_
 unfold reachW
 have c1:=wE x.delay 1 16
 have c2:=wE x.cap 0 1073741824
 have c3:=wE x.bank 0 1099511627776
 have c4:=wE x.siphon 0 (min x.cap x.bank)
 have c5:=wE x.lo 0 x.hi
 have c6:=shares_r x.s0 x.s1
 generalize inW x.delay 1 16=b1 at c1 ⊢
 generalize inW x.cap 0 1073741824=b2 at c2 ⊢
 generalize inW x.bank 0 1099511627776=b3 at c3 ⊢
 generalize inW x.siphon 0 (min x.cap x.bank)=b4 at c4 ⊢
 generalize inW x.lo 0 x.hi=b5 at c5 ⊢
 generalize shareB x.s0 x.s1=b6 at c6 ⊢
 have e:decide (x.hi≤1073741824)=!decide (1073741824<x.hi):=by rw[←decide_not,decide_eq_decide];omega
 rw[e]
 clear e
 repeat' first|(refine zB ?_;intros)|(refine xB ?_;intros)|(apply yQ;exact zD;rfl;rfl;refine zL ?_;first|exact c1 _|exact c2 _|exact c3 _|exact c4 _|exact c5 _|exact c6 _)|(refine yV ?_ ?_<;>(intro z;cases z with|_ h)<;>intro hp)|cases ‹BV _ _›|fail
 all_goals
  refine zW .nil zG yY (zN ?_)
  simp[*]
def upW(i:Int)(x:Rch):Bool:=if i=0 then decide (x.up= -1)else inW x.up 0 (i-1)
def reachesW(l:List Rch):Bool:=allI (fun i x=>upW i x&&reachW x) 0 l&&decide ((0:Int)<l.length)
theorem reaches_r(l:List Rch)(hl:l.length≤100000)(σ:List Ent):SCall prog 253 [rchs l] σ (Is (.bool (reachesW l)) σ):=by
 refine zZ func253 rfl (by simp) ?_
 have hlm:(l.map rchC).length=l.length:=List.length_map _
 obtain⟨B,hB⟩: ∃B,reachesW l=B:=⟨_,rfl⟩
 rw[hB]
 refine yW ?_;intros
 refine zU (fun(k:Nat)=>(⟨[(0,rchs l),(3,.int .i64 k)],σ,[],f253.ntmps⟩:St)) (fun k=>k≤l.length∧B=(allI (fun i x=>upW i x&&reachW x) k (l.drop k)&&decide ((0:Int)<l.length))) (fun k=>l.length-k) 0 (⟨Nat.zero_le _,by rw[←hB];rfl⟩) (St.le_of zC yY) ?_
 intro k hI
 clear hB
 obtain⟨hI1,hI2⟩:=hI
 by_cases hk:k<l.length
 ·obtain⟨x,hx⟩:=zH hk
  have gx:(l.map rchC)[k]?=some (rchC x):=by rw[List.getElem?_map,hx];rfl
  have hd:=allI_drop (p:=fun i x=>upW i x&&reachW x) hx
  have cr:=reach_r x
  have cw:=wE x.up 0 ((k:Int)-1)
  rw[hd]at hI2
  clear hd
  generalize hrest:allI (fun i x=>upW i x&&reachW x) (k+1) (l.drop (k+1))=rest at hI2
  unfold upW at hI2
  generalize reachW x=b1 at cr hI2
  generalize inW x.up 0 ((k:Int)-1)=b2 at cw hI2
  rcases Nat.eq_zero_or_pos k with h0|h0
  ·subst h0
   rw[if_pos (show ((0:Nat):Int)=0 from rfl)]at hI2
   clear cw
   by_cases hu:x.up= -1
   ·rw[decide_eq_true hu,Bool.true_and]at hI2
    cases b1 with
    |true=>
     repeat' first|(refine zB ?_;intros)|(refine xB ?_;intros)|(apply yQ;exact zD;rfl;rfl;refine zL ?_;exact cr _)|(refine yV ?_ ?_<;>(intro z;cases z with|_ h)<;>intro hp)|exact nl|cases ‹BV _ _›|exact wG|fail
     refine⟨0+1,⟨hk,by rw[hrest,hI2];simp⟩,by omega,St.le_of zC yY⟩
    |false=>
     repeat' first|(refine zB ?_;intros)|(refine xB ?_;intros)|(apply yQ;exact zD;rfl;rfl;refine zL ?_;exact cr _)|(refine yV ?_ ?_<;>(intro z;cases z with|_ h)<;>intro hp)|exact nl|cases ‹BV _ _›|exact wG|fail
     refine zW .nil zG yY (zN ?_)
     simp[hI2]
   ·rw[decide_eq_false hu]at hI2
    clear cr
    repeat' first|(refine zB ?_;intros)|(refine xB ?_;intros)|(refine yV ?_ ?_<;>(intro z;cases z with|_ h)<;>intro hp)|exact nl|fail
    refine zW .nil zG yY (zN ?_)
    simp[hI2]
  ·rw[if_neg (by omega)]at hI2
   cases b2 with
   |false=>
    repeat' first|(refine zB ?_;intros)|(refine xB ?_;intros)|(apply yQ;exact zD;rfl;rfl;refine zL ?_;exact cw _)|(refine yV ?_ ?_<;>(intro z;cases z with|_ h)<;>intro hp)|exact nl|cases ‹BV _ _›|exact wG|fail
    refine zW .nil zG yY (zN ?_)
    simp[hI2]
   |true=>
    cases b1 with
    |true=>
     repeat' first|(refine zB ?_;intros)|(refine xB ?_;intros)|(apply yQ;exact zD;rfl;rfl;refine zL ?_;first|exact cr _|exact cw _)|(refine yV ?_ ?_<;>(intro z;cases z with|_ h)<;>intro hp)|exact nl|cases ‹BV _ _›|exact wG|fail
     refine⟨k+1,⟨hk,by rw[hrest,hI2];simp⟩,by omega,St.le_of zC yY⟩
    |false=>
     repeat' first|(refine zB ?_;intros)|(refine xB ?_;intros)|(apply yQ;exact zD;rfl;rfl;refine zL ?_;first|exact cr _|exact cw _)|(refine yV ?_ ?_<;>(intro z;cases z with|_ h)<;>intro hp)|exact nl|cases ‹BV _ _›|exact wG|fail
     refine zW .nil zG yY (zN ?_)
     simp[hI2]
 ·have hkl:k=l.length:=by omega
  rw[List.drop_of_length_le (by omega)]at hI2
  refine yW ?_;intros
  all_goals
   refine zW .nil zG yY (zN ?_)
   rw[hI2]
   simp[allI]
open Go.WideMaps
def farmW(d:Dis)(x:Frm):Bool:=inW x.reach 0 (d.R.length-1)&&inW x.area 0 1048576&&(if x.area=0 then decide (x.crop= -1)else inW x.crop 0 (d.C.length-1))
def cropW(x:Crp):Bool:=inW x.need 0 1048576
theorem farms_r(d:Dis)(hR:d.R.length≤100000)(hC:d.C.length≤100000)(hF:d.F.length≤100000)(σ:List Ent):SCall prog 254 [disV d] σ (Is (.bool (d.C.all cropW&&d.F.all (farmW d))) σ):=by
 refine zZ func254 rfl (by simp) ?_
 have hCm:(d.C.map crpC).length=d.C.length:=List.length_map _
 have hFm:(d.F.map frmC).length=d.F.length:=List.length_map _
 have hRm:(d.R.map rchC).length=d.R.length:=List.length_map _
 obtain⟨B,hB⟩: ∃B,(d.C.all cropW&&d.F.all (farmW d))=B:=⟨_,rfl⟩
 rw[hB]
 repeat' first|(refine vW ?_;intros)|fail
 rename Nat=>b1;revert b1
 intro b1
 refine yW ?_;intros
 refine zU (fun(k:Nat)=>(⟨[(1,.ptr b1 0),(3,.int .i64 k)],.cells b1 (disC d) 31::σ,[],f254.ntmps⟩:St)) (fun k=>k≤d.C.length∧B=((d.C.drop k).all cropW&&d.F.all (farmW d))) (fun k=>d.C.length-k) 0 (⟨Nat.zero_le _,by rw[←hB];rfl⟩) (St.le_of zC yY) ?_
 intro k hI
 clear hB
 obtain⟨hI1,hI2⟩:=hI
 by_cases hk:k<d.C.length
 ·obtain⟨x,hx⟩:=zH hk
  have gx:(d.C.map crpC)[k]?=some (crpC x):=by rw[List.getElem?_map,hx];rfl
  rw[jT (p:=cropW) hx]at hI2
  have cw:=wE x.need 0 1048576
  unfold cropW at hI2
  change B=(inW x.need 0 1048576&&(d.C.drop (k+1)).all cropW&&d.F.all (farmW d))at hI2
  generalize inW x.need 0 1048576=b1 at cw hI2
  cases b1 with
  |true=>
   repeat' first|(refine zB ?_;intros)|(refine xB ?_;intros)|(apply yQ;exact zD;rfl;rfl;refine zL ?_;exact cw _)|(refine yV ?_ ?_<;>(intro z;cases z with|_ h)<;>intro hp)|exact nl|cases ‹BV _ _›|exact wG|fail
   refine⟨k+1,⟨hk,by rw[hI2];simp⟩,by omega,St.le_of zC yY⟩
  |false=>
   repeat' first|(refine zB ?_;intros)|(refine xB ?_;intros)|(apply yQ;exact zD;rfl;rfl;refine zL ?_;exact cw _)|(refine yV ?_ ?_<;>(intro z;cases z with|_ h)<;>intro hp)|exact nl|cases ‹BV _ _›|exact wG|fail
   refine zW .nil zG yY (zN ?_)
   simp[hI2]
 ·rw[List.drop_of_length_le (by omega)]at hI2
  refine yW ?_;intros
  clear hI1 hk
  refine zU (fun(k:Nat)=>(⟨[(1,.ptr b1 0),(4,.int .i64 k)],.cells b1 (disC d) 31::σ,[],f254.ntmps⟩:St)) (fun k=>k≤d.F.length∧B=(d.F.drop k).all (farmW d)) (fun k=>d.F.length-k) 0 (⟨Nat.zero_le _,by rw[hI2];simp⟩) (St.le_of zC yY) ?_
  intro k hI
  clear hI2
  obtain⟨hI1,hI2⟩:=hI
  by_cases hk:k<d.F.length
  ·obtain⟨x,hx⟩:=zH hk
   have gx:(d.F.map frmC)[k]?=some (frmC x):=by rw[List.getElem?_map,hx];rfl
   rw[jT (p:=farmW d) hx]at hI2
   have c1:=wE x.reach 0 (d.R.length-1)
   have c2:=wE x.area 0 1048576
   have c3:=wE x.crop 0 (d.C.length-1)
   generalize hrest:(d.F.drop (k+1)).all (farmW d)=rest at hI2
   unfold farmW at hI2
   by_cases ha0:x.area=0
   ·rw[if_pos ha0]at hI2
    generalize inW x.reach 0 (d.R.length-1)=b1 at c1 hI2
    generalize inW x.area 0 1048576=b2 at c2 hI2
    clear c3
    cases b1 with
    |false=>
     clear c2
     repeat' first|(refine zB ?_;intros)|(refine xB ?_;intros)|(apply yQ;exact zD;rfl;rfl;refine zL ?_;exact c1 _)|(refine yV ?_ ?_<;>(intro z;cases z with|_ h)<;>intro hp)|exact nl|cases ‹BV _ _›|exact wG|fail
     refine zW .nil zG yY (zN ?_)
     simp[hI2]
    |true=>
     cases b2 with
     |false=>
      repeat' first|(refine zB ?_;intros)|(refine xB ?_;intros)|(apply yQ;exact zD;rfl;rfl;refine zL ?_;first|exact c1 _|exact c2 _)|(refine yV ?_ ?_<;>(intro z;cases z with|_ h)<;>intro hp)|exact nl|cases ‹BV _ _›|exact wG|fail
      refine zW .nil zG yY (zN ?_)
      simp[hI2]
     |true=>
      by_cases hc:x.crop= -1
      ·rw[decide_eq_true hc]at hI2
       repeat' first|(refine zB ?_;intros)|(refine xB ?_;intros)|(apply yQ;exact zD;rfl;rfl;refine zL ?_;first|exact c1 _|exact c2 _)|(refine yV ?_ ?_<;>(intro z;cases z with|_ h)<;>intro hp)|exact nl|cases ‹BV _ _›|exact wG|fail
       refine⟨k+1,⟨hk,by rw[hrest,hI2];simp⟩,by omega,St.le_of zC yY⟩
      ·rw[decide_eq_false hc]at hI2
       repeat' first|(refine zB ?_;intros)|(refine xB ?_;intros)|(apply yQ;exact zD;rfl;rfl;refine zL ?_;first|exact c1 _|exact c2 _)|(refine yV ?_ ?_<;>(intro z;cases z with|_ h)<;>intro hp)|exact nl|cases ‹BV _ _›|exact wG|fail
       refine zW .nil zG yY (zN ?_)
       simp[hI2]
   ·rw[if_neg ha0]at hI2
    by_cases hpos:0<x.area
    ·generalize inW x.reach 0 (d.R.length-1)=b1 at c1 hI2
     generalize inW x.area 0 1048576=b2 at c2 hI2
     generalize inW x.crop 0 (d.C.length-1)=b3 at c3 hI2
     cases b1 with
     |false=>
      clear c2 c3
      repeat' first|(refine zB ?_;intros)|(refine xB ?_;intros)|(apply yQ;exact zD;rfl;rfl;refine zL ?_;exact c1 _)|(refine yV ?_ ?_<;>(intro z;cases z with|_ h)<;>intro hp)|exact nl|cases ‹BV _ _›|exact wG|fail
      refine zW .nil zG yY (zN ?_)
      simp[hI2]
     |true=>
      cases b2 with
      |false=>
       clear c3
       repeat' first|(refine zB ?_;intros)|(refine xB ?_;intros)|(apply yQ;exact zD;rfl;rfl;refine zL ?_;first|exact c1 _|exact c2 _)|(refine yV ?_ ?_<;>(intro z;cases z with|_ h)<;>intro hp)|exact nl|cases ‹BV _ _›|exact wG|fail
       refine zW .nil zG yY (zN ?_)
       simp[hI2]
      |true=>
       cases b3 with
       |true=>
        repeat' first|(refine zB ?_;intros)|(refine xB ?_;intros)|(apply yQ;exact zD;rfl;rfl;refine zL ?_;first|exact c1 _|exact c2 _|exact c3 _)|(refine yV ?_ ?_<;>(intro z;cases z with|_ h)<;>intro hp)|exact nl|cases ‹BV _ _›|exact wG|fail
        refine⟨k+1,⟨hk,by rw[hrest,hI2];simp⟩,by omega,St.le_of zC yY⟩
       |false=>
        repeat' first|(refine zB ?_;intros)|(refine xB ?_;intros)|(apply yQ;exact zD;rfl;rfl;refine zL ?_;first|exact c1 _|exact c2 _|exact c3 _)|(refine yV ?_ ?_<;>(intro z;cases z with|_ h)<;>intro hp)|exact nl|cases ‹BV _ _›|exact wG|fail
        refine zW .nil zG yY (zN ?_)
        simp[hI2]
    ·have e2:inW x.area 0 1048576=false:=by unfold inW;rw[decide_eq_false (by omega)];rfl
     rw[e2]at c2 hI2
     generalize inW x.reach 0 (d.R.length-1)=b1 at c1 hI2
     clear c3
     cases b1 with
     |false=>
      clear c2
      repeat' first|(refine zB ?_;intros)|(refine xB ?_;intros)|(apply yQ;exact zD;rfl;rfl;refine zL ?_;exact c1 _)|(refine yV ?_ ?_<;>(intro z;cases z with|_ h)<;>intro hp)|exact nl|cases ‹BV _ _›|exact wG|fail
      refine zW .nil zG yY (zN ?_)
      simp[hI2]
     |true=>
      repeat' first|(refine zB ?_;intros)|(refine xB ?_;intros)|(apply yQ;exact zD;rfl;rfl;refine zL ?_;first|exact c1 _|exact c2 _)|(refine yV ?_ ?_<;>(intro z;cases z with|_ h)<;>intro hp)|exact nl|cases ‹BV _ _›|exact wG|fail
      refine zW .nil zG yY (zN ?_)
      simp[hI2]
  ·rw[List.drop_of_length_le (by omega)]at hI2
   refine yW ?_;intros
   all_goals
    refine zW .nil zG yY (zN ?_)
    rw[hI2]
    simp
def rightW(d:Dis)(x:Rgt):Bool:=inW x.farm 0 (d.F.length-1)&&inW x.reach 0 (d.R.length-1)&&inW x.frm 0 x.to&&decide (x.to<d.hours)&&
 (if x.kind=1 then decide (x.reach=0)&&inW x.rank 0 1048576&&inW x.litres 1 1073741824&&inW x.length 1 x.every&&decide (x.every≤d.hours)
 else if x.kind=2 then decide (x.rank=0)&&decide (x.litres=0)&&decide (x.every=0)&&decide (x.length=0)&&decide (x.frm=0)&&decide (x.to=d.hours-1)
 else if x.kind=3 then decide (x.rank=0)&&decide (x.litres=0)&&decide (x.every=0)&&decide (x.length=0)else false)
theorem right_r(d:Dis)(hR:d.R.length≤100000)(hF:d.F.length≤100000)(hH:1≤d.hours∧d.hours≤4096)(x:Rgt)(σ:List Ent):SCall prog 255 [disV d,.agg (rgtC x)] σ (Is (.bool (rightW d x)) σ):=by
 refine zZ func255 rfl (by simp) ?_
 unfold rightW
 have c0:=wE x.farm 0 (d.F.length-1)
 have c1:=wE x.reach 0 (d.R.length-1)
 have c2:=wE x.frm 0 x.to
 have c3:=wE x.rank 0 1048576
 have c4:=wE x.litres 1 1073741824
 have c5:=wE x.length 1 x.every
 have hFm:(d.F.map frmC).length=d.F.length:=List.length_map _
 have hRm:(d.R.map rchC).length=d.R.length:=List.length_map _
 generalize inW x.farm 0 (d.F.length-1)=b0 at c0 ⊢
 generalize inW x.reach 0 (d.R.length-1)=b1 at c1 ⊢
 generalize inW x.frm 0 x.to=b2 at c2 ⊢
 generalize inW x.rank 0 1048576=b3 at c3 ⊢
 generalize inW x.litres 1 1073741824=b4 at c4 ⊢
 generalize inW x.length 1 x.every=b5 at c5 ⊢
 cases b0 with
 |false=>
  clear c1 c2 c3 c4 c5
  repeat' first|(refine zB ?_;intros)|(refine xB ?_;intros)|(apply yQ;exact zD;rfl;rfl;refine zL ?_;exact c0 _)|(refine yV ?_ ?_<;>(intro z;cases z with|_ h)<;>intro hp)|cases ‹BV _ _›|exact wG|fail
  refine zW .nil zG yY (zN ?_)
  simp
 |true=>
 cases b1 with
 |false=>
  clear c2 c3 c4 c5
  repeat' first|(refine zB ?_;intros)|(refine xB ?_;intros)|(apply yQ;exact zD;rfl;rfl;refine zL ?_;first|exact c0 _|exact c1 _)|(refine yV ?_ ?_<;>(intro z;cases z with|_ h)<;>intro hp)|cases ‹BV _ _›|exact wG|fail
  refine zW .nil zG yY (zN ?_)
  simp
 |true=>
 cases b2 with
 |false=>
  clear c3 c4 c5
  repeat' first|(refine zB ?_;intros)|(refine xB ?_;intros)|(apply yQ;exact zD;rfl;rfl;refine zL ?_;first|exact c0 _|exact c1 _|exact c2 _)|(refine yV ?_ ?_<;>(intro z;cases z with|_ h)<;>intro hp)|cases ‹BV _ _›|exact wG|fail
  refine zW .nil zG yY (zN ?_)
  simp
 |true=>
 by_cases ht:x.to<d.hours
 rotate_left
 ·rw[decide_eq_false ht]
  clear c3 c4 c5
  repeat' first|(refine zB ?_;intros)|(refine xB ?_;intros)|(apply yQ;exact zD;rfl;rfl;refine zL ?_;first|exact c0 _|exact c1 _|exact c2 _)|(refine yV ?_ ?_<;>(intro z;cases z with|_ h)<;>intro hp)|exact nl|cases ‹BV _ _›|exact wG|fail
  refine zW .nil zG yY (zN ?_)
  simp
 rw[decide_eq_true ht]
 simp only[Bool.true_and]
 by_cases k1:x.kind=1
 ·rw[if_pos k1]
  repeat' first|(refine zB ?_;intros)|(refine xB ?_;intros)|(apply yQ;exact zD;rfl;rfl;refine zL ?_;first|exact c0 _|exact c1 _|exact c2 _|exact c3 _|exact c4 _|exact c5 _)|(refine yV ?_ ?_<;>(intro z;cases z with|_ h)<;>intro hp)|exact nl|cases ‹BV _ _›|exact wG|fail
  all_goals
   refine zW .nil zG yY (zN ?_)
   simp[*]
 rw[if_neg k1]
 clear c3 c4 c5
 by_cases k2:x.kind=2
 ·rw[if_pos k2]
  repeat' first|(refine zB ?_;intros)|(refine xB ?_;intros)|(apply yQ;exact zD;rfl;rfl;refine zL ?_;first|exact c0 _|exact c1 _|exact c2 _)|(refine yV ?_ ?_<;>(intro z;cases z with|_ h)<;>intro hp)|exact nl|cases ‹BV _ _›|exact wG|fail
  all_goals
   refine zW .nil zG yY (zN ?_)
   first|(simp[*];done)|(simp[*];rfl)
 rw[if_neg k2]
 by_cases k3:x.kind=3
 ·rw[if_pos k3]
  repeat' first|(refine zB ?_;intros)|(refine xB ?_;intros)|(apply yQ;exact zD;rfl;rfl;refine zL ?_;first|exact c0 _|exact c1 _|exact c2 _)|(refine yV ?_ ?_<;>(intro z;cases z with|_ h)<;>intro hp)|exact nl|cases ‹BV _ _›|exact wG|fail
  all_goals
   refine zW .nil zG yY (zN ?_)
   first|(simp[*];done)|(simp[*];rfl)
 rw[if_neg k3]
 repeat' first|(refine zB ?_;intros)|(refine xB ?_;intros)|(apply yQ;exact zD;rfl;rfl;refine zL ?_;first|exact c0 _|exact c1 _|exact c2 _)|(refine yV ?_ ?_<;>(intro z;cases z with|_ h)<;>intro hp)|exact nl|cases ‹BV _ _›|exact wG|fail
 refine zW .nil zG zJ ?_
 rfl
end Go.Proofs.YtaoaafdommlhcaaGreat
