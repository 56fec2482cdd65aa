/- Parts of the proof that belong together: Ab Ac Ba Bb Bc. -/
import Derived.Test.YtaoaafdommlhcaaGreatHA01
import Derived.Test.YtaoaafdommlhcaaGreatHA07
import Derived.Test.YtaoaafdommlhcaaGreatHA09
import Derived.Test.YtaoaafdommlhcaaGreatHA10
import Derived.Test.YtaoaafdommlhcaaGreatHA11
import Derived.Test.YtaoaafdommlhcaaGreatHA12
set_option maxRecDepth 10000
set_option maxHeartbeats 8000000
set_option linter.unusedSimpArgs false
set_option linter.unusedVariables false
set_option autoImplicit false
open Go.Proofs.Tryz
namespace Go.Proofs.YtaoaafdommlhcaaGreat
theorem scall_permu{P:Program}{f:FuncId}{args:List AV}{σ σ':List Ent}{Q:AV→List Ent→Prop}(hp:σ.Perm σ')(h:SCall P f args σ' Q):SCall P f args σ Q:=
 ⟨fun X M w vs hg ha=>h.run X M w vs (hg.perm hp) ha⟩
abbrev rtC(r:Rt2):List AV:=[.int .i64 r.n,.int .i64 r.d]
abbrev rtV(r:Rt2):AV:=.agg (rtC r)
abbrev natU(n:Nat):AV:=.int .u64 (n:Int)
theorem magnitude_c(n:Int)(h: -4611686018427387904≤n∧n≤4611686018427387904)(σ:List Ent):SCall prog 248 [.int .i64 n] σ (Is (natU n.natAbs) σ):=by
 refine zZ func248 rfl (by simp) ?_
 by_cases hn:n<0
 ·have h1:IntKind.u64.wrap n=n+18446744073709551616:=by rw[IntKind.wrap_u64];omega
  have h2:IntKind.u64.wrap (0-(n+18446744073709551616))=(n.natAbs:Int):=by rw[IntKind.wrap_u64];omega
  repeat' first|(refine zB ?_;intros)|(apply qX;exact zD;rfl;rfl;first|((exact g_conv rfl rfl rfl h1))|((exact g_negK rfl h2)))|(refine yV ?_ ?_<;>(intro z;cases z with|_ h)<;>intro hp)|exact nl|fail
  refine zW .nil zG zJ ?_
  rfl
 ·have h1:IntKind.u64.wrap n=(n.natAbs:Int):=by rw[IntKind.wrap_u64];omega
  repeat' first|(refine zB ?_;intros)|(apply qX;exact zD;rfl;rfl;(exact g_conv rfl rfl rfl h1))|(refine yV ?_ ?_<;>(intro z;cases z with|_ h)<;>intro hp)|exact nl|fail
  refine zW .nil zG zJ ?_
  rfl
theorem remainders1_c(a0 b0:Nat)(ha0:a0≤4611686018427387904)(hb0:b0≤4611686018427387904∧b0≠0)(p q lp:Nat)(σ:List Ent)(I:List Nat→List Ent→Prop)(Stop:List Ent→Prop)
  (hy: ∀x r τ,I (x::r) τ→SRound prog lp [natU x] τ fun v σ'=>(v=.bool true∧I r σ')∨(v=.bool false∧Stop σ')) (h0:I (remL a0 b0) σ):
  SCall prog 291 [.fn (.yield lp) [] [],.ptr p 0,.ptr q 0] (.cells q [natU b0] 193::.cells p [natU a0] 193::σ) (fun _ σ'=>I [] σ'∨Stop σ'):=by
 refine zZ func291 rfl (by simp) ?_
 refine uZ ?_;and_intros<;>first|exact nl|intros
 refine zU (fun(z:Nat×Nat×List Ent)=>(⟨[(0,.fn (.yield lp) [] []),(1,.ptr p 0),(2,.ptr q 0)],.cells q [natU z.2.1] 193::.cells p [natU z.1] 193::z.2.2,[],f291.ntmps⟩:St)) (fun z=>z.1≤4611686018427387904∧z.2.1≤4611686018427387904∧z.2.1≠0∧I (remL z.1 z.2.1) z.2.2) (fun z=>z.2.1) (a0,b0,σ) (⟨ha0,hb0.1,hb0.2,h0⟩) (St.le_of zC yY) ?_
 intro z hI
 obtain⟨a,b,τ⟩:=z
 obtain⟨hI1,hI2,hI3,hI4⟩:=hI
 dsimp only at hI1 hI2 hI3 hI4 ⊢
 clear h0 ha0 hb0
 rw[remL]at hI4
 by_cases ha:a=0
 ·subst ha
  rw[if_pos (.inl rfl)]at hI4
  clear hy
  refine uZ ?_;and_intros<;>first|exact nl|intros
  refine zS (σ3:=τ) .nil zG zJ ?_
  exact zY (.inl hI4)
 ·rw[if_neg (by omega)]at hI4
  have hlt:a%b<b:=Nat.mod_lt _ (by omega)
  have hmx:max (b:Int) 1=(b:Int):=by omega
  by_cases h0:a%b=0
  ·rw[dif_pos h0]at hI4
   have hR:=SRound.front [.cells q [natU b] 193,.cells p [natU a] 193] (hy _ _ _ hI4)
   have hR2:=fun τ' (ht:I [b] τ')=>SRound.front [.cells q [natU (a%b)] 193,.cells p [natU b] 193] (hy _ _ _ ht)
   simp only[List.cons_append,List.nil_append]at hR hR2
   have hz:((a%b:Nat):Int)=0:=by omega
   clear hy hI4
   repeat' first|(refine zge ?_;(refine uC rfl rfl rfl rfl (tX rfl rfl hR) ?_;rintro _ _ ⟨σ2,rfl,⟨rfl,hs2⟩|⟨rfl,hs2⟩⟩))|(refine yX ?_;intros)|(refine yV ?_ ?_<;>(intro z;cases z with|_ h)<;>intro hp)|exact nl|fail
   ·refine yB (fun e=>e=.cells q [natU b] 193) [1,5] 6 rfl (by kernel_rfl) rfl ?_
    simp only[List.take_succ_cons,List.take_zero,List.drop_succ_cons,List.drop_zero]
    have hR3:=hR2 _ hs2
    clear hR hR2
    repeat' first|(refine zgd ?_;(apply xH;rfl;rfl;(apply g_load1;rfl;rfl;exact .p yP rfl)))|(refine zge ?_;(refine zK rfl rfl rfl (tX rfl rfl hR3) ?_;rintro _ _ ⟨σ3,rfl,⟨rfl,hs3⟩|⟨rfl,hs3⟩⟩))|(refine zB ?_;intros)|(refine xB ?_;intros)|(refine yV ?_ ?_<;>(intro z;cases z with|_ h)<;>intro hp)|exact nl|fail
    ·refine zS (σ3:=σ3) .nil zG zJ ?_
     exact zY (.inl hs3)
    ·refine zS (σ3:=σ3) .nil zG zJ ?_
     exact zY (.inr hs3)
   ·refine zS (σ3:=σ2) .nil zG zJ ?_
    exact zY (.inr hs2)
  ·rw[dif_neg h0]at hI4
   have hR:=SRound.front [.cells q [natU b] 193,.cells p [natU a] 193] (hy _ _ _ hI4)
   simp only[List.cons_append,List.nil_append]at hR
   have hz:¬ ((a%b:Nat):Int)=0:=by omega
   have hle:a%b≤4611686018427387904:=by omega
   clear hy hI4
   repeat' first|(refine zge ?_;(refine uC rfl rfl rfl rfl (tX rfl rfl hR) ?_;rintro _ _ ⟨σ2,rfl,⟨rfl,hs2⟩|⟨rfl,hs2⟩⟩))|(refine yX ?_;intros)|(refine yV ?_ ?_<;>(intro z;cases z with|_ h)<;>intro hp)|exact nl|fail
   ·refine yB (fun e=>e=.cells q [natU b] 193) [1,5] 6 rfl (by kernel_rfl) rfl ?_
    simp only[List.take_succ_cons,List.take_zero,List.drop_succ_cons,List.drop_zero]
    clear hR
    repeat' first|(refine zgd ?_;(apply xH;rfl;rfl;(apply g_load1;rfl;rfl;exact .p yP rfl)))|(refine zB ?_;intros)|(refine xB ?_;intros)|(refine yV ?_ ?_<;>(intro z;cases z with|_ h)<;>intro hp)|exact nl|fail
    refine⟨(b,a%b,σ2),⟨hI2,hle,h0,hs2⟩,hlt,?_⟩
    dsimp only
    exact(St.le_of zC zJ)
   ·refine zS (σ3:=σ2) .nil zG zJ ?_
    exact zY (.inr hs2)
theorem remainders_c(a b:Nat)(σ:List Ent):SCall prog 278 [natU a,natU b] σ (fun r τ=> ∃p q,r=.fn (.func 291) [] [.ptr p 0,.ptr q 0]∧τ=.cells q [natU b] 193::.cells p [natU a] 193::σ):=by
 refine zZ func278 rfl (by simp) ?_
 refine yW ?_;intros
 rename Nat=>q;revert q;rename Nat=>p;revert p
 intro p q
 refine zS (σ3:=.cells q [natU b] 193::.cells p [natU a] 193::σ) .nil zG zJ ?_
 exact zY ⟨p,q,rfl,rfl⟩
theorem divisor_c(a b:Nat)(ha:a≤4611686018427387904)(hb:b≤4611686018427387904)(σ:List Ent):SCall prog 247 [natU a,natU b] σ (Is (natU (Nat.gcd a b)) σ):=by
 refine zZ func247 rfl (by simp) ?_
 by_cases hb0:b=0
 ·subst hb0
  rw[Nat.gcd_zero_right]
  refine yW ?_;intros
  refine zW .nil zG zJ ?_
  rfl
 ·have hbi:¬ ((b:Nat):Int)=0:=by omega
  have hlast:=remL_last b a b (Nat.le_refl _) hb0
  repeat' first|(refine zge ?_;(refine zK rfl rfl rfl (zQ rfl rfl (zX (by kernel_rfl)) (remainders_c _ _ _)) ?_;rintro _ _ ⟨bp,bq,rfl,rfl⟩))|(refine yX ?_;intros)|(refine yV ?_ ?_<;>(intro z;cases z with|_ h)<;>intro hp)|exact nl|fail
  rename_i b4
  refine yS (s':=⟨[(4,.ptr b4 0),(12,.fn (.func 291) [] [.ptr bp 0,.ptr bq 0])],.cells bq [natU b] 193::.cells bp [natU a] 193::.cells b4 [natU b] 193::σ,[],f247.ntmps⟩) (St.le_of zC yY) ?_
  refine pY rfl (zX (by kernel_rfl)) ?_
  intro D l0 fn
  show SCall _ _ _ (Ent.loop _ _ _ _ ?ee ?nn ?ps ?asg ?body _::_) _
  obtain⟨L,hL⟩: ∃L,L=Ent.loop l0 .ready none fn ?ee ?nn ?ps ?asg ?body D:=⟨_,rfl⟩
  rw[←hL]
  refine scall_permu (List.perm_append_comm_assoc [L,.obj D (.deferred (some []))] [.cells bq [natU b] 193,.cells bp [natU a] 193] _) ?_
  refine SCall.mono (remainders1_c a b ha ⟨hb,hb0⟩ bp bq l0 _
   (fun r τ=> ∃d:Nat,τ=L::.obj D (.deferred (some []))::.cells b4 [natU d] 193::σ∧r.getLastD d=Nat.gcd a b)
   (fun τ=>False) ?_ ⟨b,rfl,hlast⟩) ?_
  ·rintro x r τ ⟨d,rfl,hI⟩
   have hI2:r.getLastD x=Nat.gcd a b:=by rw[←hI];cases r<;>rfl
   clear hI hlast
   rw[hL]
   refine SRound.sub ?_
   refine sround yP rfl (by decide) ?_
   refine yW ?_;intros
   subst hL
   exact⟨_,List.Sublist.refl _,.inl ⟨rfl,x,rfl,hI2⟩⟩
  ·rintro r τ (⟨d,rfl,hI⟩|hI)
   ·rw[hL]
    refine RangeEnd.done .here ?_
    rw[←hI]
    refine yW ?_;intros
    refine zS (σ3:=σ) (.cons .here .nil) zG zJ ?_
    exact zY .mk
   ·exact hI.elim
theorem checkR_c(r:Rt2)(σ:List Ent):SCall prog 205 [rtV r] σ (Is (.int .i64 (if pQ r then 0 else 120)) σ):=by
 refine zZ func205 rfl (by simp) ?_
 by_cases h1:1≤r.d∧r.d≤1073741824∧ -1073741824≤r.n∧r.n≤1073741824
 ·have hm:=magnitude_c r.n (by omega)
  have hd:=divisor_c r.n.natAbs r.d.toNat (by omega) (by omega)
  have hcv:IntKind.u64.wrap r.d=(r.d.toNat:Int):=by rw[IntKind.wrap_u64];omega
  have hok:pQ r=decide (Nat.gcd r.n.natAbs r.d.toNat=1):=by unfold pQ;rw[decide_eq_true h1,Bool.true_and]
  rw[hok]
  repeat' first|(refine zB ?_;intros)|(apply zwI;exact zD;rfl;rfl;intro σ' hl;(exact g_conv rfl rfl rfl hcv))|(refine xB ?_;intros)|refine zTd ?_|(apply zwX;exact zD;rfl;rfl;intro σ' hl;refine zL ?_;first|exact hm _|exact hd _)|(refine yV ?_ ?_<;>(intro z;cases z with|_ h)<;>intro hp)|exact nl|fail
  all_goals
   refine zW .nil zG zJ ?_
   first
    |(rw[if_neg (by simp only[decide_eq_true_eq];omega)];rfl)
    |(rw[if_pos (by simp only[decide_eq_true_eq];omega)];rfl)
 ·have hok:pQ r=false:=by unfold pQ;rw[decide_eq_false h1,Bool.false_and]
  rw[hok]
  repeat' first|(refine xV ?_;and_intros<;>first|exact nl|intros)|refine zTd ?_|fail
  all_goals
   refine zW .nil zG zJ ?_
   rfl
theorem isNaN_c(n:Int)(σ:List Ent):SCall prog 96 [.int .i64 n] σ (Is (.bool false) σ):=by
 refine zZ func96 rfl (by simp) ?_
 refine yW ?_;intros
 all_goals
  refine zW .nil zG yY (zN ?_)
  simp
def wQ(a b:Int):Int:=if a<b then-1 else if b<a then 1 else 0
theorem cmpI_c(a b:Int)(σ:List Ent):SCall prog 43 [.int .i64 a,.int .i64 b] σ (Is (.int .i64 (wQ a b)) σ):=by
 refine zZ func43 rfl (by simp) ?_
 repeat' first|(apply yQ;exact zD;rfl;rfl;refine zL ?_;exact isNaN_c _ _)|(refine xV ?_;and_intros<;>first|exact nl|intros)|cases ‹BV _ _›|fail
 all_goals
  refine zW .nil zG zJ ?_
  refine congrArg (AV.int .i64) (show _=wQ a b from ?_)
  unfold wQ
  first
   |(rw[if_pos (by omega)];done)
   |(rw[if_neg (by omega),if_pos (by omega)];done)
   |(rw[if_neg (by omega),if_neg (by omega)];done)
theorem wC{r:Rt2}(h:pQ r=true):(1≤r.d∧r.d≤1073741824∧ -1073741824≤r.n∧r.n≤1073741824)∧Nat.gcd r.n.natAbs r.d.toNat=1:=by
 unfold pQ at h
 simp only[Bool.and_eq_true,decide_eq_true_eq]at h
 exact h
theorem wV{a b:Int}(ha: -1073741824≤a∧a≤1073741824)(hb: -1073741824≤b∧b≤1073741824): -1152921504606846976≤a*b∧a*b≤1152921504606846976:=by
 have h1:(a*b).natAbs≤1073741824*1073741824:=by
  rw[Int.natAbs_mul]
  exact Nat.mul_le_mul (by omega) (by omega)
 omega
theorem cmpR_c(a b:Rt2)(σ:List Ent):SCall prog 204 [rtV a,rtV b] σ (Is (.tup [.int .i64 (if pQ a&&pQ b then wQ (a.n*b.d) (b.n*a.d)else 0),.int .i64 (if pQ a&&pQ b then 0 else 120)]) σ):=by
 refine zZ func204 rfl (by simp) ?_
 have ca:=checkR_c a
 have cb:=checkR_c b
 cases ha:pQ a with
 |false=>
  rw[ha]at ca
  repeat' first|(apply yQ;exact zD;rfl;rfl;refine zL ?_;exact ca _)|(refine xV ?_;and_intros<;>first|exact nl|intros)|fail
  refine zW .nil zG zJ ?_
  rfl
 |true=>
  cases hb:pQ b with
  |false=>
   rw[ha]at ca
   rw[hb]at cb
   repeat' first|(apply yQ;exact zD;rfl;rfl;refine zL ?_;first|exact ca _|exact cb _)|(refine xV ?_;and_intros<;>first|exact nl|intros)|exact wG|fail
   refine zW .nil zG zJ ?_
   rfl
  |true=>
   rw[ha]at ca
   rw[hb]at cb
   obtain⟨h1,_⟩:=wC ha
   obtain⟨h2,_⟩:=wC hb
   have m1:=wV (a:=a.n) (b:=b.d) (by omega) (by omega)
   have m2:=wV (a:=b.n) (b:=a.d) (by omega) (by omega)
   clear ha hb
   repeat' first|(refine zB ?_;intros)|(refine xB ?_;intros)|(apply yQ;exact zD;rfl;rfl;refine zL ?_;first|exact ca _|exact cb _|exact cmpI_c _ _ _)|(refine yV ?_ ?_<;>(intro z;cases z with|_ h)<;>intro hp)|exact nl|exact wG|fail
   refine zW .nil zG zJ ?_
   rfl
theorem downR_c(n d:Int)(hn: -1152921504606846976≤n∧n≤1152921504606846976)(hd:1≤d∧d≤1073741824)(σ:List Ent):SCall prog 206 [.int .i64 n,.int .i64 d] σ (Is (.int .i64 (n.fdiv d)) σ):=by
 refine zZ func206 rfl (by simp) ?_
 obtain⟨m,hm⟩: ∃m,n.tmod d=m:=⟨_,rfl⟩
 have hml: -d<m∧m<d:=by
  rw[←hm]
  exact⟨by have:=Int.lt_tmod_of_pos n (show 0<d by omega);omega,Int.tmod_lt_of_pos n (by omega)⟩
 have hqe:(m+d)%d=n%d:=by
  have h1:n=d*n.tdiv d+m:=by rw[←hm];exact(Int.mul_tdiv_add_tmod n d).symm
  rw[Int.add_emod_right]
  conv=>rhs;rw[h1]
  rw[Int.add_comm,Int.add_mul_emod_self_left]
 have hq0:0≤(m+d)%d∧(m+d)%d<d:=⟨Int.emod_nonneg _ (by omega),Int.emod_lt_of_pos _ (by omega)⟩
 have hdv:(n-(m+d)%d).tdiv d=n.fdiv d:=by
  have h2:n-(m+d)%d=d*(n/d):=by rw[hqe];have:=Int.mul_ediv_add_emod n d;omega
  rw[h2,Int.mul_tdiv_cancel_left _ (by omega),Int.fdiv_eq_ediv_of_nonneg _ (by omega)]
 have hres: -1152921504606846976≤n.fdiv d∧n.fdiv d≤1152921504606846976:=by
  rw[Int.fdiv_eq_ediv_of_nonneg _ (by omega)]
  have h3:=Int.mul_ediv_add_emod n d
  have h4:0≤n%d:=Int.emod_nonneg _ (by omega)
  have h5:n%d<d:=Int.emod_lt_of_pos _ (by omega)
  constructor
  ·exact Int.le_ediv_of_mul_le (by omega) (by have : (-1152921504606846976 : Int) * d ≤ -1152921504606846976 := by omega
                                              omega)
  ·exact Int.ediv_le_of_le_mul (by omega) (by have : (1152921504606846976 : Int) ≤ 1152921504606846976 * d := by omega
                                              omega)
 clear hqe
 repeat' first|(refine zB ?_;intros)|(apply qX;exact zD;rfl;rfl;first|((exact g_rem rfl rfl (by omega) hm))|((exact g_quo rfl rfl (by omega) hdv (by omega))))|fail
 refine zW .nil zG zJ ?_
 rfl
theorem timesR_c(r:Rt2)(n:Int)(hr:pQ r=true)(hn: -1073741824≤n∧n≤1073741824)(σ:List Ent):SCall prog 141 [rtV r,.int .i64 n] σ (Is (.tup [.int .i64 ((r.n*n).fdiv r.d),.int .i64 (-((-r.n*n).fdiv r.d)),.int .i64 0]) σ):=by
 refine zZ func141 rfl (by simp) ?_
 have ca:=checkR_c r
 rw[hr]at ca
 obtain⟨h1,_⟩:=wC hr
 have m1:=wV (a:=r.n) (b:=n) (by omega) hn
 have m2:=wV (a:= -r.n) (b:=n) (by omega) hn
 have d1:=downR_c (r.n*n) r.d m1 (by omega)
 have d2:=downR_c (-r.n*n) r.d m2 (by omega)
 have hres: -1152921504606846976≤(-r.n*n).fdiv r.d∧(-r.n*n).fdiv r.d≤1152921504606846976:=by
  rw[Int.fdiv_eq_ediv_of_nonneg _ (by omega)]
  have h3:=Int.mul_ediv_add_emod (-r.n*n) r.d
  constructor
  ·refine Int.le_ediv_of_mul_le (by omega) ?_
   have:(-1152921504606846976:Int)*r.d≤ -1152921504606846976:=by omega
   omega
  ·refine Int.ediv_le_of_le_mul (by omega) ?_
   have:(1152921504606846976:Int)≤1152921504606846976*r.d:=by omega
   omega
 clear hr
 repeat' first|(refine zB ?_;intros)|(refine xB ?_;intros)|refine zTd ?_|((first|(apply yQ;exact zD;rfl;rfl)|(apply zwX;exact zD;rfl;rfl;intro σ' hl));refine zL ?_;first|exact ca _|exact d1 _|exact d2 _)|(refine yV ?_ ?_<;>(intro z;cases z with|_ h)<;>intro hp)|exact nl|exact wG|fail
 refine zW .nil zG zJ ?_
 rfl
def makeR(n d:Int):Rt2×Int:=
 if max (n.natAbs/Nat.gcd n.natAbs d.natAbs) (d.natAbs/Nat.gcd n.natAbs d.natAbs)>1073741824 then (⟨0,0⟩,2)
 else (⟨if n<0 then-((n.natAbs/Nat.gcd n.natAbs d.natAbs:Nat):Int)else ((n.natAbs/Nat.gcd n.natAbs d.natAbs:Nat):Int),((d.natAbs/Nat.gcd n.natAbs d.natAbs:Nat):Int)⟩,0)
theorem makeR_c(n d:Int)(hn: -4611686018427387904≤n∧n≤4611686018427387904)(hd:1≤d∧d≤4611686018427387904)(σ:List Ent):SCall prog 279 [.int .i64 n,.int .i64 d] σ (Is (.tup [rtV (makeR n d).1,.int .i64 (makeR n d).2]) σ):=by
 refine zZ func279 rfl (by simp) ?_
 have c1:=magnitude_c n hn
 have c2:=magnitude_c d (by omega)
 have c3:=divisor_c n.natAbs d.natAbs (by omega) (by omega)
 unfold makeR
 have hg:0<Nat.gcd n.natAbs d.natAbs:=Nat.gcd_pos_of_pos_right _ (by omega)
 obtain⟨g,hgg⟩: ∃g,Nat.gcd n.natAbs d.natAbs=g:=⟨_,rfl⟩
 rw[hgg]at hg c3 ⊢
 obtain⟨x,hx⟩: ∃x,n.natAbs=x:=⟨_,rfl⟩
 obtain⟨y,hy⟩: ∃y,d.natAbs=y:=⟨_,rfl⟩
 rw[hx]at c1 c3 ⊢
 rw[hy]at c2 c3 ⊢
 have q1:IntKind.u64.wrap ((x:Int).tdiv g)=((x/g:Nat):Int):=by
  have:x/g≤x:=Nat.div_le_self _ _
  rw[show (x:Int).tdiv g=((x/g:Nat):Int) from rfl]
  exact wrapU64 (by omega)
 have q2:IntKind.u64.wrap ((y:Int).tdiv g)=((y/g:Nat):Int):=by
  have:y/g≤y:=Nat.div_le_self _ _
  rw[show (y:Int).tdiv g=((y/g:Nat):Int) from rfl]
  exact wrapU64 (by omega)
 have hxl:x/g≤x:=Nat.div_le_self _ _
 have hyl:y/g≤y:=Nat.div_le_self _ _
 generalize x/g=X at q1 hxl ⊢
 generalize y/g=Y at q2 hyl ⊢
 have hgz:((g:Nat):Int)≠0:=by omega
 by_cases hm:max X Y>1073741824
 ·rw[if_pos hm]
  repeat' first|(refine zB ?_;intros)|(apply zwI;exact zD;rfl;rfl;intro σ' hl;first|((exact g_quoK rfl rfl hgz q1))|((exact g_quoK rfl rfl hgz q2)))|(refine xB ?_;intros)|refine zTdn ?_|(apply yQ;exact zD;rfl;rfl;refine zL ?_;first|exact c1 _|exact c2 _|exact c3 _)|(refine yV ?_ ?_<;>(intro z;cases z with|_ h)<;>intro hp)|exact nl|fail
  refine zW .nil zG zJ ?_
  rfl
 ·rw[if_neg hm]
  have v1:IntKind.i64.wrap (X:Int)=X:=uE (by omega)
  have v2:IntKind.i64.wrap (Y:Int)=Y:=uE (by omega)
  have e2:decide (d<0)=false:=decide_eq_false (by omega)
  by_cases hn0:n<0
  ·rw[if_pos hn0]
   have e1:decide (n<0)=true:=decide_eq_true hn0
   repeat' first|(refine zB ?_;intros)|(apply zwI;exact zD;rfl;rfl;intro σ' hl;first|((exact g_quoK rfl rfl hgz q1))|((exact g_quoK rfl rfl hgz q2)))|(refine xB ?_;intros)|refine zTdn ?_|(apply yQ;exact zD;rfl;rfl;refine zL ?_;first|exact c1 _|exact c2 _|exact c3 _)|(refine yV ?_ ?_<;>(intro z;cases z with|_ h)<;>intro hp)|exact nl|cases ‹BV _ _›|fail
   ·refine zW .nil zG zJ ?_
    rfl
   ·exfalso
    rw[e1,e2]at h
    cases h
  ·rw[if_neg hn0]
   have e1:decide (n<0)=false:=decide_eq_false hn0
   repeat' first|(refine zB ?_;intros)|(apply zwI;exact zD;rfl;rfl;intro σ' hl;first|((exact g_quoK rfl rfl hgz q1))|((exact g_quoK rfl rfl hgz q2)))|(refine xB ?_;intros)|refine zTdn ?_|(apply yQ;exact zD;rfl;rfl;refine zL ?_;first|exact c1 _|exact c2 _|exact c3 _)|(refine yV ?_ ?_<;>(intro z;cases z with|_ h)<;>intro hp)|exact nl|cases ‹BV _ _›|fail
   ·exfalso
    rw[e1,e2]at h
    cases h
   ·refine zW .nil zG zJ ?_
    rfl
def xL(a b:Rt2):Rt2×Int:=if pQ a&&pQ b then makeR (a.n*b.d+b.n*a.d) (a.d*b.d)else (⟨0,0⟩,120)
theorem add1_c(a b:Rt2)(ha:pQ a=true)(hb:pQ b=true)(σ:List Ent):SCall prog 250 [rtV a,rtV b] σ (Is (.tup [.int .i64 (a.n*b.d+b.n*a.d),.int .i64 (a.d*b.d)]) σ):=by
 refine zZ func250 rfl (by simp) ?_
 obtain⟨h1,_⟩:=wC ha
 obtain⟨h2,_⟩:=wC hb
 have m1:=wV (a:=a.n) (b:=b.d) (by omega) (by omega)
 have m2:=wV (a:=b.n) (b:=a.d) (by omega) (by omega)
 have m3:=wV (a:=a.d) (b:=b.d) (by omega) (by omega)
 clear ha hb
 repeat' first|(refine zB ?_;intros)|(refine xB ?_;intros)|refine zTd ?_|fail
 refine zW .nil zG zJ ?_
 rfl
theorem do_c(a b:Rt2)(σ:List Ent):SCall prog 251 [.agg [.fn (.func 250) [] []],rtV a,rtV b] σ (Is (.tup [rtV (xL a b).1,.int .i64 (xL a b).2]) σ):=by
 refine zZ func251 rfl (by simp) ?_
 have ca:=checkR_c a
 have cb:=checkR_c b
 unfold xL
 cases ha:pQ a with
 |false=>
  rw[ha]at ca
  repeat' first|(apply yQ;exact zD;rfl;rfl;refine zL ?_;exact ca _)|(refine xV ?_;and_intros<;>first|exact nl|intros)|fail
  refine zW .nil zG zJ ?_
  rfl
 |true=>
  cases hb:pQ b with
  |false=>
   rw[ha]at ca
   rw[hb]at cb
   repeat' first|(apply yQ;exact zD;rfl;rfl;refine zL ?_;first|exact ca _|exact cb _)|(refine xV ?_;and_intros<;>first|exact nl|intros)|exact wG|fail
   refine zW .nil zG zJ ?_
   rfl
  |true=>
   rw[ha]at ca
   rw[hb]at cb
   have c1:=add1_c a b ha hb
   obtain⟨h1,_⟩:=wC ha
   obtain⟨h2,_⟩:=wC hb
   have m1:=wV (a:=a.n) (b:=b.d) (by omega) (by omega)
   have m2:=wV (a:=b.n) (b:=a.d) (by omega) (by omega)
   have m3:=wV (a:=a.d) (b:=b.d) (by omega) (by omega)
   have m4:1≤a.d*b.d:=Int.mul_pos (by omega) (by omega)
   have c2:=makeR_c (a.n*b.d+b.n*a.d) (a.d*b.d) (by omega) (by omega)
   clear ha hb
   simp only[Bool.and_self,if_true]
   generalize makeR (a.n*b.d+b.n*a.d) (a.d*b.d)=m at c2 ⊢
   repeat' first|(apply yQ;exact zD;rfl;rfl;refine zL ?_;first|exact ca _|exact cb _|exact c1 _|exact c2 _)|(refine xV ?_;and_intros<;>first|exact nl|intros)|exact wG|fail
   refine zW .nil zG zJ ?_
   rfl
theorem addR_c(a b:Rt2)(σ:List Ent):SCall prog 211 [rtV a,rtV b] σ (Is (.tup [rtV (xL a b).1,.int .i64 (xL a b).2]) σ):=by
 refine zZ func211 rfl (by simp) ?_
 have c:=do_c a b
 generalize xL a b=m at c ⊢
 repeat' first|(apply yQ;exact zD;rfl;rfl;refine zL ?_;exact c _)|(refine xV ?_;and_intros<;>first|exact nl|intros)|fail
 refine zW .nil zG zJ ?_
 rfl
structure Rch where
 nm:ByteArray
 up:Int
 delay:Int
 cap:Int
 bank:Int
 siphon:Int
 lo:Int
 hi:Int
 s0:Rt2
 s1:Rt2
structure Frm where
 nm:ByteArray
 reach:Int
 area:Int
 crop:Int
structure Crp where
 nm:ByteArray
 need:Int
structure Rgt where
 nm:ByteArray
 kind:Int
 farm:Int
 reach:Int
 rank:Int
 litres:Int
 frm:Int
 to:Int
 every:Int
 length:Int
structure Dty where
 nm:ByteArray
 farm:Int
 reach:Int
 due:Int
structure Wll where
 farm:Int
 reach:Int
 d:Int
 kernel:List Int
structure Dis where
 nm:ByteArray
 hours:Int
 cap:Int
 start:Int
 R:List Rch
 F:List Frm
 C:List Crp
 G:List Rgt
 D:List Dty
 W:List Wll
def vS:List Int→Bool
 |a::b::l=>decide (a≤b)&&vS (b::l)
 |_=>true
def idxB(i n:Int):Bool:=decide (0≤i)&&decide (i<n)
def shareB(a b:Rt2):Bool:=pQ a&&pQ b&&decide (0≤a.n)&&decide (a.n*b.d≤b.n*a.d)&&decide (b.n≤b.d)
def reachB(i:Int)(x:Rch):Bool:=
 (if 0<i then idxB x.up i else decide (x.up= -1))&&vS [1,x.delay,16]&&vS [0,x.siphon,x.cap,1073741824]&&vS [0,x.siphon,x.bank,1099511627776]&&vS [0,x.lo,x.hi,1073741824]&&shareB x.s0 x.s1
def qC(d:Dis)(x:Rgt):Bool:=
 idxB x.farm d.F.length&&idxB x.reach d.R.length&&vS [0,x.frm,x.to,d.hours-1]&&
 (if x.kind=1 then decide (x.reach=0)&&vS [0,x.rank,1048576]&&vS [1,x.litres,1073741824]&&vS [1,x.length,x.every,d.hours]
 else if x.kind=2 then decide (x.rank=0)&&decide (x.litres=0)&&decide (x.frm=0)&&decide (x.to=d.hours-1)&&decide (x.every=0)&&decide (x.length=0)
 else if x.kind=3 then decide (x.rank=0)&&decide (x.litres=0)&&decide (x.every=0)&&decide (x.length=0)
 else false)
def farmB(d:Dis)(x:Frm):Bool:=(if 0<x.area then idxB x.crop d.C.length else decide (x.crop= -1))&&idxB x.reach d.R.length&&vS [0,x.area,1048576]
def cropB(x:Crp):Bool:=vS [0,x.need,1048576]
def dutyB(d:Dis)(x:Dty):Bool:=idxB x.farm d.F.length&&idxB x.reach d.R.length&&vS [0,x.due,d.hours]
def tY(d:Dis):Bool:=vS [1,d.hours,4096]&&vS [0,d.start,d.cap,1099511627776]&&decide ((0:Int)<d.R.length)
def allI{α:Type}(p:Int→α→Bool):Nat→List α→Bool
 |_,[]=>true
 |i,x::l=>p i x&&allI p (i+1) l
def yD(d:Dis):Bool:=tY d&&allI reachB 0 d.R&&d.C.all cropB&&d.F.all (farmB d)&&d.G.all (qC d)&&d.D.all (dutyB d)
def fewB(d:Dis):Bool:=decide ((d.R.length:Int)≤64)&&decide ((d.F.length:Int)≤600)&&decide ((d.C.length:Int)≤32)&&decide ((d.G.length:Int)≤256)&&decide ((d.D.length:Int)≤256)
def yZ(d:Dis):Int:=if fewB d=false then 2 else if yD d then 0 else 191
theorem allI_get{α:Type}{p:Int→α→Bool}: ∀{l:List α} {i:Nat},allI p i l=true→ ∀{k:Nat} {x:α},l[k]?=some x→p ((i+k:Nat):Int) x=true
 |[],i,_,k,x,h=>by simp at h
 |y::l,i,ha,0,x,h=>by
  simp only[allI,Bool.and_eq_true]at ha
  simp at h;subst h;exact ha.1
 |y::l,i,ha,k+1,x,h=>by
  simp only[allI,Bool.and_eq_true]at ha
  have:=allI_get ha.2 (k:=k) (x:=x) (by simpa using h)
  rwa [show i+1+k=i+(k+1) by omega]at this
theorem allI_drop{α:Type}{p:Int→α→Bool}{l:List α}{k:Nat}{x:α}(h:l[k]?=some x):allI p k (l.drop k)=(p k x&&allI p (k+1) (l.drop (k+1))):=by
 obtain⟨h1,h2⟩:=List.getElem?_eq_some_iff.1 h
 rw[List.drop_eq_getElem_cons h1,h2];rfl
theorem jT{α:Type}{p:α→Bool}{l:List α}{k:Nat}{x:α}(h:l[k]?=some x):(l.drop k).all p=(p x&&(l.drop (k+1)).all p):=by
 obtain⟨h1,h2⟩:=List.getElem?_eq_some_iff.1 h
 rw[List.drop_eq_getElem_cons h1,h2];rfl
abbrev intC(n:Int):List AV:=[.int .i64 n]
abbrev ints(l:List Int):AV:=.dl 1 (l.map intC)
theorem wU{l:List Int}{k:Nat}{x:Int}(h:l[k]?=some x):(l.map intC)[k]?=some (intC x):=by rw[List.getElem?_map,h];rfl
theorem wZ{α:Type}{l:List α}{k:Nat}{c:α}(h:l[k]?=some c):l.drop k=c::l.drop (k+1):=by
 obtain⟨h1,h2⟩:=List.getElem?_eq_some_iff.1 h
 rw[List.drop_eq_getElem_cons h1,h2]
theorem zH{α:Type}{l:List α}{k:Nat}(h:k<l.length): ∃x,l[k]?=some x:=⟨_,List.getElem?_eq_getElem h⟩
theorem qZ{α:Type}{l:List α}{k:Nat}{x:α}(h:l[k]?=some x):k<l.length:=(List.getElem?_eq_some_iff.1 h).1
theorem index_c(i n:Int)(σ:List Ent):SCall prog 209 [.int .i64 i,.int .i64 n] σ (Is (.bool (idxB i n)) σ):=by
 refine zZ func209 rfl (by simp) ?_
 unfold idxB
 refine uZ ?_;and_intros<;>first|exact nl|intros
 all_goals
  refine zW .nil zG yY (zN ?_)
  simp[*]
theorem tH(l:List Int)(σ:List Ent):SCall prog 207 [ints l] σ (Is (.bool (vS l)) σ):=by
 refine zZ func207 rfl (by simp) ?_
 obtain⟨B,hB⟩: ∃B,vS l=B:=⟨_,rfl⟩
 rw[hB]
 refine yW ?_;intros
 refine zU (fun(k:Nat)=>(⟨[(0,ints l),(3,.int .i64 ((k:Int)+1))],σ,[],f207.ntmps⟩:St)) (fun k=>k≤l.length∧vS (l.drop k)=B) (fun k=>l.length-k) 0 (⟨Nat.zero_le _,hB⟩) (St.le_of zC yY) ?_
 intro k hI
 obtain⟨hI1,hI2⟩:=hI
 clear hB
 refine jY (t:=0) rfl (by first|exact(List.length_map _).symm|rfl) (fun hlen=>?_)
 by_cases hk:k+1<l.length
 ·obtain⟨a,ha⟩:=zH (show k<l.length by omega)
  obtain⟨b,hb⟩:=zH hk
  have ga:=wU ha
  have gb:=wU hb
  have h1:(k:Int)+1=((k+1:Nat):Int):=by omega
  have h2:(k:Int)+1-1=((k:Nat):Int):=by omega
  rw[wZ ha,wZ hb]at hI2
  simp only[vS]at hI2
  rw[←wZ hb]at hI2
  by_cases hab:b<a
  ·rw[show decide (a≤b)=false from decide_eq_false (by omega),Bool.false_and]at hI2
   subst hI2
   clear ha hb
   refine yW ?_;intros
   refine zW .nil zG zJ ?_
   rfl
  ·rw[show decide (a≤b)=true from decide_eq_true (by omega),Bool.true_and]at hI2
   clear ha hb
   refine yW ?_;intros
   refine⟨k+1,⟨by omega,hI2⟩,by omega,?_⟩
   exact(St.le_of zC zJ)
 ·have hz:vS (l.drop k)=true:=by
   have:(l.drop k).length≤1:=by rw[List.length_drop];omega
   match l.drop k,this with
   |[],_=>rfl
   |[_],_=>rfl
   |_::_::_,h=>simp at h
  rw[hz]at hI2
  subst hI2
  refine yW ?_;intros
  refine zW .nil zG zJ ?_
  rfl
abbrev rchC(x:Rch):List AV:=[.str x.nm,.int .i64 x.up,.int .i64 x.delay,.int .i64 x.cap,.int .i64 x.bank,.int .i64 x.siphon,.int .i64 x.lo,.int .i64 x.hi,.int .i64 x.s0.n,.int .i64 x.s0.d,.int .i64 x.s1.n,.int .i64 x.s1.d]
abbrev rchV(x:Rch):AV:=.agg (rchC x)
abbrev seepV(a b:Rt2):AV:=.agg [.int .i64 a.n,.int .i64 a.d,.int .i64 b.n,.int .i64 b.d]
theorem cmpI_le{a b:Int}:wQ a b≤0↔a≤b:=by
 unfold wQ
 split
 ·omega
 ·split<;>omega
theorem share_c(a b:Rt2)(σ:List Ent):SCall prog 249 [seepV a b] σ (Is (.bool (shareB a b)) σ):=by
 refine zZ func249 rfl (by simp) ?_
 have cc:=cmpR_c a b
 unfold shareB
 cases hab:pQ a&&pQ b with
 |false=>
  rw[hab]at cc
  repeat' first|(apply yQ;exact zD;rfl;rfl;refine zL ?_;exact cc _)|(refine xV ?_;and_intros<;>first|exact nl|intros)|fail
  all_goals
   refine zW .nil zG yY (zN ?_)
   simp
 |true=>
  rw[hab]at cc
  simp only[if_true]at cc
  have hc:decide (wQ (a.n*b.d) (b.n*a.d)≤0)=decide (a.n*b.d≤b.n*a.d):=by rw[decide_eq_decide];exact cmpI_le
  rw[←hc]
  clear hc hab
  generalize wQ (a.n*b.d) (b.n*a.d)=c at cc ⊢
  repeat' first|(apply yQ;exact zD;rfl;rfl;refine zL ?_;exact cc _)|(refine xV ?_;and_intros<;>first|exact nl|intros)|cases ‹BV _ _›|fail
  all_goals
   refine zW .nil zG yY (zN ?_)
   simp[*]
theorem reach_c(i:Int)(x:Rch)(σ:List Ent):SCall prog 208 [.int .i64 i,rchV x] σ (Is (.bool (reachB i x)) σ):=by
 refine zZ func208 rfl (by simp) ?_
 unfold reachB
 have c1:=tH [1,x.delay,16]
 have c2:=tH [0,x.siphon,x.cap,1073741824]
 have c3:=tH [0,x.siphon,x.bank,1099511627776]
 have c4:=tH [0,x.lo,x.hi,1073741824]
 have c5:=share_c x.s0 x.s1
 have c0:=index_c x.up i
 generalize vS [1,x.delay,16]=b1 at c1 ⊢
 generalize vS [0,x.siphon,x.cap,1073741824]=b2 at c2 ⊢
 generalize vS [0,x.siphon,x.bank,1099511627776]=b3 at c3 ⊢
 generalize vS [0,x.lo,x.hi,1073741824]=b4 at c4 ⊢
 generalize shareB x.s0 x.s1=b5 at c5 ⊢
 generalize idxB x.up i=b0 at c0 ⊢
 by_cases hi:0<i
 ·rw[if_pos hi]
  repeat' first|(refine zB ?_;intros)|(apply qX;exact zD;rfl;rfl;exact zlt)|(refine xB ?_;intros)|(apply yQ;exact zD;rfl;rfl;refine zL ?_;first|exact c0 _|exact c1 _|exact c2 _|exact c3 _|exact c4 _|exact c5 _)|(refine yV ?_ ?_<;>(intro z;cases z with|_ h)<;>intro hp)|exact nl|cases ‹BV _ _›|fail
  all_goals
   refine zW .nil zG yY (zN ?_)
   simp[*]
 ·rw[if_neg hi]
  repeat' first|(refine zB ?_;intros)|(apply qX;exact zD;rfl;rfl;exact zlt)|(refine xB ?_;intros)|(apply yQ;exact zD;rfl;rfl;refine zL ?_;first|exact c1 _|exact c2 _|exact c3 _|exact c4 _|exact c5 _)|(refine yV ?_ ?_<;>(intro z;cases z with|_ h)<;>intro hp)|exact nl|cases ‹BV _ _›|fail
  all_goals
   refine zW .nil zG yY (zN ?_)
   simp[*]
abbrev rchs(l:List Rch):AV:=.dl 12 (l.map rchC)
abbrev frmC(x:Frm):List AV:=[.str x.nm,.int .i64 x.reach,.int .i64 x.area,.int .i64 x.crop]
abbrev frms(l:List Frm):AV:=.dl 4 (l.map frmC)
abbrev crpC(x:Crp):List AV:=[.str x.nm,.int .i64 x.need]
abbrev crps(l:List Crp):AV:=.dl 2 (l.map crpC)
abbrev rgtC(x:Rgt):List AV:=[.str x.nm,.int .i64 x.kind,.int .i64 x.farm,.int .i64 x.reach,.int .i64 x.rank,.int .i64 x.litres,.int .i64 x.frm,.int .i64 x.to,.int .i64 x.every,.int .i64 x.length]
abbrev rgts(l:List Rgt):AV:=.dl 10 (l.map rgtC)
abbrev dtyC(x:Dty):List AV:=[.str x.nm,.int .i64 x.farm,.int .i64 x.reach,.int .i64 x.due]
abbrev dtys(l:List Dty):AV:=.dl 4 (l.map dtyC)
abbrev wllC(x:Wll):List AV:=[.int .i64 x.farm,.int .i64 x.reach,.int .i64 x.d,ints x.kernel]
abbrev wlls(l:List Wll):AV:=.dl 4 (l.map wllC)
abbrev disC(d:Dis):List AV:=[.str d.nm,.int .i64 d.hours,.int .i64 d.cap,.int .i64 d.start,rchs d.R,frms d.F,crps d.C,rgts d.G,dtys d.D,wlls d.W]
abbrev disV(d:Dis):AV:=.agg (disC d)
theorem right_c(d:Dis)(x:Rgt)(hh:1≤d.hours∧d.hours≤4096)(σ:List Ent):SCall prog 210 [disV d,.agg (rgtC x)] σ (Is (.bool (qC d x)) σ):=by
 refine zZ func210 rfl (by simp) ?_
 unfold qC
 have c0:=index_c x.farm d.F.length
 have c1:=index_c x.reach d.R.length
 have c2:=tH [0,x.frm,x.to,d.hours-1]
 have c3:=tH [0,x.rank,1048576]
 have c4:=tH [1,x.litres,1073741824]
 have c5:=tH [1,x.length,x.every,d.hours]
 generalize idxB x.farm d.F.length=b0 at c0 ⊢
 generalize idxB x.reach d.R.length=b1 at c1 ⊢
 generalize vS [0,x.frm,x.to,d.hours-1]=b2 at c2 ⊢
 generalize vS [0,x.rank,1048576]=b3 at c3 ⊢
 generalize vS [1,x.litres,1073741824]=b4 at c4 ⊢
 generalize vS [1,x.length,x.every,d.hours]=b5 at c5 ⊢
 cases b0 with
 |false=>
  repeat' first|(refine zB ?_;intros)|(apply qX;exact zD;rfl;rfl;exact zlt)|(refine xB ?_;intros)|(apply yQ;exact zD;rfl;rfl;refine zL ?_;exact c0 _)|(refine yV ?_ ?_<;>(intro z;cases z with|_ h)<;>intro hp)|cases ‹BV _ _›|exact wG|fail
  refine zW .nil zG zJ ?_
  rfl
 |true=>
 cases b1 with
 |false=>
  repeat' first|(refine zB ?_;intros)|(apply qX;exact zD;rfl;rfl;exact zlt)|(refine xB ?_;intros)|(apply yQ;exact zD;rfl;rfl;refine zL ?_;first|exact c0 _|exact c1 _)|(refine yV ?_ ?_<;>(intro z;cases z with|_ h)<;>intro hp)|cases ‹BV _ _›|exact wG|fail
  refine zW .nil zG zJ ?_
  rfl
 |true=>
 cases b2 with
 |false=>
  repeat' first|(refine zB ?_;intros)|(apply qX;exact zD;rfl;rfl;exact zlt)|(refine xB ?_;intros)|(apply yQ;exact zD;rfl;rfl;refine zL ?_;first|exact c0 _|exact c1 _|exact c2 _)|(refine yV ?_ ?_<;>(intro z;cases z with|_ h)<;>intro hp)|cases ‹BV _ _›|exact wG|fail
  refine zW .nil zG zJ ?_
  rfl
 |true=>
 simp only[Bool.true_and]
 by_cases k1:x.kind=1
 ·rw[if_pos k1]
  repeat' first|(refine zB ?_;intros)|(apply qX;exact zD;rfl;rfl;exact zlt)|(refine xB ?_;intros)|(apply yQ;exact zD;rfl;rfl;refine zL ?_;first|exact c0 _|exact c1 _|exact c2 _|exact c3 _|exact c4 _|exact c5 _)|(refine yV ?_ ?_<;>(intro z;cases z with|_ h)<;>intro hp)|exact nl|cases ‹BV _ _›|exact wG|fail
  all_goals
   refine zW .nil zG yY (zN ?_)
   simp[*]
 rw[if_neg k1]
 by_cases k2:x.kind=2
 ·rw[if_pos k2]
  repeat' first|(refine zB ?_;intros)|(apply qX;exact zD;rfl;rfl;exact zlt)|(refine xB ?_;intros)|(apply yQ;exact zD;rfl;rfl;refine zL ?_;first|exact c0 _|exact c1 _|exact c2 _)|(refine yV ?_ ?_<;>(intro z;cases z with|_ h)<;>intro hp)|exact nl|cases ‹BV _ _›|exact wG|fail
  refine zW .nil zG yY (zN ?_)
  rw[Bool.eq_iff_iff]
  simp[and_assoc]
 rw[if_neg k2]
 by_cases k3:x.kind=3
 ·rw[if_pos k3]
  repeat' first|(refine zB ?_;intros)|(apply qX;exact zD;rfl;rfl;exact zlt)|(refine xB ?_;intros)|(apply yQ;exact zD;rfl;rfl;refine zL ?_;first|exact c0 _|exact c1 _|exact c2 _)|(refine yV ?_ ?_<;>(intro z;cases z with|_ h)<;>intro hp)|exact nl|cases ‹BV _ _›|exact wG|fail
  refine zW .nil zG yY (zN ?_)
  rw[Bool.eq_iff_iff]
  simp[and_assoc]
 rw[if_neg k3]
 repeat' first|(refine zB ?_;intros)|(apply qX;exact zD;rfl;rfl;exact zlt)|(refine xB ?_;intros)|(apply yQ;exact zD;rfl;rfl;refine zL ?_;first|exact c0 _|exact c1 _|exact c2 _)|(refine yV ?_ ?_<;>(intro z;cases z with|_ h)<;>intro hp)|exact nl|cases ‹BV _ _›|exact wG|fail
 refine zW .nil zG zJ ?_
 rfl
end Go.Proofs.YtaoaafdommlhcaaGreat
