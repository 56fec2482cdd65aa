/- Parts of the proof that belong together: Uf Ug Uh. -/
import Derived.Test.YtaoaafdommlhcaaGreatHA07
import Derived.Test.YtaoaafdommlhcaaGreatHA18
set_option maxRecDepth 10000
set_option maxHeartbeats 8000000
set_option linter.unusedSimpArgs false
set_option linter.unusedVariables false
set_option autoImplicit false
open Go.Proofs.Tryz
namespace Go.Proofs.YtaoaafdommlhcaaGreat
abbrev rowE(v:Value)(L:List Ey):Ent:=.row v 35 9 (L.map entC)
theorem rotate_c(A X Y C:List Ey)(a m b:Nat)(ha:A.length=a)(hm:a+X.length=m)(hb:m+Y.length=b)(hX:X≠[])(hY:Y≠[])(hl:(A++X++Y++C).length≤100000)(v:Value)(σ:List Ent):
  SCall prog 293 [.slv v,.int .i64 a,.int .i64 m,.int .i64 b,entF'] (rowE v (A++X++Y++C)::σ) (fun r τ=>r=.tup []∧τ=rowE v (A++Y++X++C)::σ):=by
 refine zZ func293 rfl (by simp) ?_
 have hd1:(m:Int)-(a:Int)=((X.length:Nat):Int):=by omega
 have hd2:(b:Int)-(m:Int)=((Y.length:Nat):Int):=by omega
 have hlx:a+X.length+Y.length+C.length≤100000:=by simp at hl;omega
 refine yW ?_;intros
 rw[hd1,hd2]
 clear hd1 hd2
 refine zU (fun(z:List Ey×List Ey×List Ey×List Ey)=>(⟨[(0,.slv v),(2,.int .i64 m),(4,entF'),(10,.int .i64 ((z.2.1.length:Nat):Int)),(11,.int .i64 ((z.2.2.1.length:Nat):Int))],rowE v (z.1++z.2.1++z.2.2.1++z.2.2.2)::σ,[],f293.ntmps⟩:St)) (fun z=>z.1++z.2.2.1++z.2.1++z.2.2.2=A++Y++X++C∧z.1.length+z.2.1.length=m∧z.2.1≠[]∧z.2.2.1≠[]∧z.1.length+z.2.1.length+z.2.2.1.length+z.2.2.2.length≤100000) (fun z=>z.2.1.length+z.2.2.1.length) (A,X,Y,C) (⟨rfl,by dsimp only;omega,hX,hY,by dsimp only;omega⟩) (St.le_of zC yY) ?_
 intro z hI
 obtain⟨P,S,T,R⟩:=z
 obtain⟨hI1,hI2,hI3,hI4,hI5⟩:=hI
 dsimp only at hI1 hI2 hI3 hI4 hI5 ⊢
 clear hX hY hl hlx ha hm hb
 have hS0:=List.length_pos_iff.2 hI3
 have hT0:=List.length_pos_iff.2 hI4
 by_cases hlt:T.length<S.length
 ·obtain⟨S1,S2,hS,hS1⟩: ∃S1 S2,S=S1++S2∧S1.length=T.length:=⟨S.take T.length,S.drop T.length,(List.take_append_drop _ _).symm,by rw[List.length_take];omega⟩
  have hS2:S.length=T.length+S2.length:=by rw[hS,List.length_append,hS1]
  have cc:=swapRange_c P S1 S2 T R P.length m T.length rfl hS1 rfl (by omega) (by simp;omega) v σ
  have hz1:(m:Int)-((S.length:Nat):Int)=((P.length:Nat):Int):=by omega
  have hz2:((S.length:Nat):Int)-((T.length:Nat):Int)=((S2.length:Nat):Int):=by omega
  have hrow:P++S++T++R=P++S1++S2++T++R:=by rw[hS];simp
  rw[hrow]
  have hnew:(P++T)++S1++S2++R=A++Y++X++C:=by rw[←hI1,hS];simp
  have hrow2:P++T++S2++S1++R=(P++T)++S2++S1++R:=by simp
  have hn1:S2≠[]:=fun e=>by rw[e]at hS2;simp at hS2;omega
  have hn2:S1≠[]:=fun e=>by rw[e]at hS1;simp at hS1;omega
  clear hrow hI1
  have hne:¬ (((S.length:Nat):Int)=((T.length:Nat):Int)):=by omega
  repeat' first|(refine zge ?_;(refine zK rfl rfl rfl (zQ rfl rfl (zX (by kernel_rfl)) (by first|exact cc|(rw[hz1];exact cc))) ?_;rintro _ _ ⟨rfl,rfl⟩))|(refine yX ?_;intros)|(refine yV ?_ ?_<;>(intro z;cases z with|_ h)<;>intro hp)|exact nl|fail
  rw[hz2]
  refine⟨(P++T,S2,S1,R),⟨hnew,by simp;omega,hn1,hn2,by simp;omega⟩,by dsimp only;omega,?_⟩
  dsimp only
  rw[hS1]
  exact(St.le_of zC zJ)
 ·by_cases heq:S.length=T.length
  ·have cc:=swapRange_c P S [] T R P.length m S.length rfl rfl heq.symm (by simp;omega) (by simp;omega) v σ
   have hz1:(m:Int)-((S.length:Nat):Int)=((P.length:Nat):Int):=by omega
   simp only[List.append_nil]at cc
   have hze:((S.length:Nat):Int)=((T.length:Nat):Int):=by omega
   rw[←hI1]
   clear hI1
   repeat' first|(refine zge ?_;(refine zK rfl rfl rfl (zQ rfl rfl (zX (by kernel_rfl)) (by first|exact cc|(rw[hz1];exact cc))) ?_;rintro _ _ ⟨rfl,rfl⟩))|(refine yX ?_;intros)|(refine yV ?_ ?_<;>(intro z;cases z with|_ h)<;>intro hp)|exact nl|fail
   refine zS (σ3:=rowE v (P++T++S++R)::σ) .nil zG zJ ?_
   exact zY ⟨rfl,rfl⟩
  ·obtain⟨T1,T2,hT,hT1⟩: ∃T1 T2,T=T1++T2∧T2.length=S.length:=⟨T.take (T.length-S.length),T.drop (T.length-S.length),(List.take_append_drop _ _).symm,by rw[List.length_drop];omega⟩
   have hT2:T.length=T1.length+S.length:=by rw[hT,List.length_append,hT1]
   have cc:=swapRange_c P S T1 T2 R P.length (m+T1.length) S.length rfl rfl hT1 (by omega) (by simp;omega) v σ
   have hz1:(m:Int)-((S.length:Nat):Int)=((P.length:Nat):Int):=by omega
   have hz2:(m:Int)+((T.length:Nat):Int)-((S.length:Nat):Int)=((m+T1.length:Nat):Int):=by omega
   have hz3:((T.length:Nat):Int)-((S.length:Nat):Int)=((T1.length:Nat):Int):=by omega
   have hrow:P++S++T++R=P++S++T1++T2++R:=by rw[hT];simp
   rw[hrow]
   have hnew:P++T1++T2++(S++R)=A++Y++X++C:=by rw[←hI1,hT];simp
   have hrow2:P++T2++T1++S++R=P++T2++T1++(S++R):=by simp
   have hn1:T1≠[]:=fun e=>by rw[e]at hT2;simp at hT2;omega
   have hn2:T2≠[]:=fun e=>by rw[e]at hT1;simp at hT1;omega
   clear hrow hI1
   have hne:¬ (((S.length:Nat):Int)=((T.length:Nat):Int)):=by omega
   repeat' first|(refine zge ?_;(refine zK rfl rfl rfl (zQ rfl rfl (zX (by kernel_rfl)) (by rw[hz1,hz2];exact cc)) ?_;rintro _ _ ⟨rfl,rfl⟩))|(refine yX ?_;intros)|(refine yV ?_ ?_<;>(intro z;cases z with|_ h)<;>intro hp)|exact nl|fail
   rw[hz3,hrow2]
   refine⟨(P,T2,T1,S++R),⟨hnew,by dsimp only;omega,hn2,hn1,by simp;omega⟩,by dsimp only;omega,?_⟩
   dsimp only
   rw[hT1]
   exact(St.le_of zC zJ)
theorem insertion_c(P S0 Q:List Ey)(a b:Nat)(ha:P.length=a)(hb:a+S0.length=b)(hup:S0.Pairwise fun x y=>x.1<y.1)(hl:(P++S0++Q).length≤100000)(v:Value)(σ:List Ent):
  SCall prog 285 [.slv v,.int .i64 a,.int .i64 b,entF'] (rowE v (P++S0++Q)::σ) (fun r τ=>r=.tup []∧ ∃S,S.Perm S0∧S.Pairwise qA∧τ=rowE v (P++S++Q)::σ):=by
 refine zZ func285 rfl (by simp) ?_
 have hlx:a+S0.length+Q.length≤100000:=by simp at hl;omega
 clear hl
 cases S0 with
 |nil=>
  have hz:¬ ((a:Int)+1<(b:Int)):=by simp at hb;omega
  refine uZ ?_;and_intros<;>first|exact nl|intros
  refine zU (fun(u:Unit)=>(⟨[(0,.slv v),(1,.int .i64 a),(2,.int .i64 b),(3,entF'),(8,.int .i64 ((a:Int)+1))],rowE v (P++[]++Q)::σ,[],f285.ntmps⟩:St)) (fun u=>True) (fun u=>0) () (trivial) (St.le_of zC yY) ?_
  intro u hI
  refine uZ ?_;and_intros<;>first|exact nl|intros
  refine zS (σ3:=rowE v (P++[]++Q)::σ) .nil zG zJ ?_
  exact zY ⟨rfl,[],List.Perm.refl _,.nil,rfl⟩
 |cons x0 S0=>
  have hz0:(a:Int)+1=((a+[x0].length:Nat):Int):=by simp
  refine uZ ?_;and_intros<;>first|exact nl|intros
  rw[hz0]
  rw[show P++x0::S0++Q=P++[x0]++S0++Q by simp]
  refine zU (fun(z:List Ey×List Ey)=>(⟨[(0,.slv v),(1,.int .i64 a),(2,.int .i64 b),(3,entF'),(8,.int .i64 ((a+z.1.length:Nat):Int))],rowE v (P++z.1++z.2++Q)::σ,[],f285.ntmps⟩:St)) (fun z=>(z.1++z.2).Perm (x0::S0)∧z.1.Pairwise qA∧z.2.Pairwise (fun x y=>x.1<y.1)∧(∀x∈z.1,∀y∈z.2,x.1<y.1)∧z.1≠[]) (fun z=>z.2.length) ([x0],S0) (⟨List.Perm.refl _,by simp,(List.pairwise_cons.1 hup).2,fun x hx y hy=>by rw[List.mem_singleton]at hx;subst hx;exact(List.pairwise_cons.1 hup).1 y hy,by simp⟩) (St.le_of zC yY) ?_
  intro z hI
  obtain⟨S,R⟩:=z
  obtain⟨hI1,hI2,hI3,hI4,hI5⟩:=hI
  dsimp only at hI1 hI2 hI3 hI4 hI5 ⊢
  clear hup hz0
  have hpl:=hI1.length_eq
  rw[List.length_append]at hpl
  have hS0:=List.length_pos_iff.2 hI5
  cases R with
  |nil=>
   have hz:¬ (((a+S.length:Nat):Int)<(b:Int)):=by simp at hpl hb;omega
   refine uZ ?_;and_intros<;>first|exact nl|intros
   refine zS (σ3:=rowE v (P++S++[]++Q)::σ) .nil zG zJ ?_
   exact zY ⟨rfl,S,by simpa using hI1,hI2,by simp⟩
  |cons x R=>
   rw[List.pairwise_cons]at hI3
   have hlt:((a+S.length:Nat):Int)<(b:Int):=by simp at hpl hb;omega
   have hRl:a+S.length+1+R.length+Q.length≤100000:=by simp at hpl hlx;omega
   have hxS: ∀y∈S,y.1<x.1:=fun y hy=>hI4 y hy x (by simp)
   refine uZ ?_;and_intros<;>first|exact nl|intros
   rw[show P++S++x::R++Q=P++S++x::[]++(R++Q) by simp]
   refine zU (fun(w:List Ey×List Ey)=>(⟨[(0,.slv v),(1,.int .i64 a),(2,.int .i64 b),(3,entF'),(8,.int .i64 ((a+S.length:Nat):Int)),(9,.int .i64 ((a+w.1.length:Nat):Int))],rowE v (P++w.1++x::w.2++(R++Q))::σ,[],f285.ntmps⟩:St)) (fun w=>w.1++w.2=S∧ ∀y∈w.2,qA x y) (fun w=>w.1.length) (S,[]) (⟨by simp,by simp⟩) (St.le_of zC yY) ?_
   intro w hI
   obtain⟨S1,S2⟩:=w
   obtain⟨hJ1,hJ2⟩:=hI
   dsimp only at hJ1 hJ2 ⊢
   subst hJ1
   obtain⟨J,hJ⟩: ∃J,a+S1.length=J:=⟨_,rfl⟩
   have hPJ:(P++S1).length=J:=by rw[List.length_append];omega
   have hSl:(S1++S2).length=S1.length+S2.length:=List.length_append
   obtain⟨L,hL⟩: ∃L,P++S1++x::S2++(R++Q)=L:=⟨_,rfl⟩
   have hLl:L.length=J+1+S2.length+R.length+Q.length:=by rw[←hL];simp;omega
   have hLx:L[J]?=some x:=by rw[←hL,←hPJ];simp
   have hgx:=qK hLx
   have hlm:(L.map entC).length=L.length:=List.length_map _
   rcases snoc_or S1 with rfl|⟨T,z,rfl⟩
   ·have hJa:J=a:=by rw[←hJ];simp
    rw[hL,hJ]
    rw[List.nil_append]at hI2 hI1
    have hnew:P++(x::S2)++R++Q=L:=by rw[←hL];simp
    have hup2:(x::S2).Pairwise qA:=List.pairwise_cons.2 ⟨hJ2,hI2⟩
    have hperm:((x::S2)++R).Perm (x0::S0):=by
     refine List.Perm.trans ?_ hI1
     rw[List.cons_append];exact List.perm_middle.symm
    have hidx: ∀y∈x::S2,∀u∈R,y.1<u.1:=fun y hy u hu=>by
     rcases List.mem_cons.1 hy with rfl|hy
     ·exact hI3.1 u hu
     ·exact hI4 y (by simpa using hy) u (by simp[hu])
    have hzz:((a+([]++S2).length:Nat):Int)+1=((a+(x::S2).length:Nat):Int):=by simp;omega
    rw[←hnew]
    clear hL hnew hI1 hI4 hxS hgx hLx
    subst hJa
    repeat' first|(refine xV ?_;and_intros<;>first|exact nl|intros)|refine zTdn ?_|fail
    rw[hzz]
    refine⟨(x::S2,R),⟨hperm,hup2,hI3.2,hidx,by simp⟩,by simp,?_⟩
    exact(St.le_of zC zJ)
   ·obtain⟨J',hJ'⟩: ∃J',a+T.length=J':=⟨_,rfl⟩
    have hJJ:J=J'+1:=by rw[←hJ,List.length_append,←hJ'];simp;omega
    have hPT:(P++T).length=J':=by rw[List.length_append];omega
    have hLz:L[J']?=some z:=by
     rw[←hL,←hPT,show P++(T++[z])++x::S2++(R++Q)=(P++T)++z::(x::S2++(R++Q)) by simp]
     simp
    have hgz:=qK hLz
    have hzi:(J:Int)-1=(J':Int):=by omega
    have hza:(a:Int)<(J:Int):=by omega
    have hsw:swp2 L J J'=P++T++x::(z::S2)++(R++Q):=by
     have:=swp2_down (A:=P++T) (C:=S2++(R++Q)) (x:=z) (y:=x)
     rw[hPT]at this
     rw[←hL,hJJ,show P++(T++[z])++x::S2++(R++Q)=P++T++z::x::(S2++(R++Q)) by simp,this];simp
    have hw:=swp2_map hLx hLz
    have lc:=less_c x z
    obtain⟨c,hc⟩: ∃c,wQ x.2.at_ z.2.at_=c:=⟨_,rfl⟩
    have hcl:=@cmpI_lt x.2.at_ z.2.at_
    rw[hc]at lc hcl
    have hzx:z.1<x.1:=hxS z (by simp)
    have hLne:L≠[]:=fun e=>by rw[e]at hLx;simp at hLx
    by_cases hless:c<0
    ·have hxz:qA x z:=.inl (hcl.1 hless)
     have hS2': ∀y∈z::S2,qA x y:=fun y hy=>by
      rcases List.mem_cons.1 hy with rfl|hy
      ·exact hxz
      ·exact hJ2 y hy
     have hJT:T++z::S2=T++[z]++S2:=by simp
     rw[hsw]at hw
     have hwr: ∀v,rowE v (P++T++x::z::S2++(R++Q))=Ent.row v 35 9 (((L.map entC).set J (entC z)).set J' (entC x)):=fun v=>by
      show Ent.row _ _ _ _=_
      rw[hw]
     rw[hL,hJ]
     clear hI1 hI2 hI4 hxS hL hcl hsw hJ2
     repeat' first|(apply zwX;exact zD;rfl;rfl;intro σ' hl;refine zL ?_;exact lc _)|(refine xV ?_;and_intros<;>first|exact nl|intros)|refine zTdn ?_|fail
     refine ex_rowV (L:=L.map entC) (.head _) (fun e=>hLne (List.map_eq_nil_iff.1 e)) ?_
     rintro g cap rfl
     rw[hlm]
     refine yB (fun _=>False) [9,13,15] 16 rfl (by kernel_rfl) rfl ?_
     simp only[List.take_succ_cons,List.take_zero,List.drop_succ_cons,List.drop_zero]
     repeat' first|(refine zgd ?_;first|(apply xH;rfl;rfl;(apply g_loadAgg;rfl;decide;rfl;(exact .k0 yP (by assumption) rfl rfl)))|(apply drs_do;rfl;rfl;(focus (apply vB;rfl;rfl;rfl;rfl;rfl;rfl;rotate_left;exact qJ;(first|assumption|omega|(simp only[List.length_map];omega))));exact zks))|(refine zge ?_;(apply yE;rfl;rfl;focus (apply vB;rfl;rfl;rfl;rfl;rfl;rfl;rotate_left;exact qJ;(first|assumption|omega|(simp only[List.length_map];omega)|(simp only[List.length_set,List.length_map];omega)))))|(refine zB ?_;intros)|(apply zvI;exact zD;rfl;intro σ' hl;(apply g_indexRaw;rfl;rfl;rfl;(first|assumption|rfl);(first|assumption|omega)))|(refine xB ?_;intros)|refine vX rfl rfl rfl ?_ ?_|fail
     all_goals
      rw[hzi]
      refine⟨(T,z::S2),⟨hJT,hS2'⟩,by simp,?_⟩
      dsimp only
      rw[hwr,hJ']
      exact(St.le_of zC zJ)
    ·have hzx':qA z x:=by have:=mt hcl.2 hless;unfold qA;omega
     rw[hL,hJ]
     have hS1: ∀y∈T++[z],qA y x:=fun y hy=>by
      have hp:=(List.pairwise_append.1 hI2).1
      rcases List.mem_append.1 hy with hy|hy
      ·exact ltE_trans ((List.pairwise_append.1 hp).2.2 y hy z (by simp)) hzx'
      ·rw[List.mem_singleton]at hy;subst hy;exact hzx'
     have hnew:P++((T++[z])++x::S2)++R++Q=L:=by rw[←hL];simp
     have hup2:=ins_up hI2 hS1 hJ2
     have hperm:(((T++[z])++x::S2)++R).Perm (x0::S0):=by
      refine List.Perm.trans ?_ hI1
      rw[show (T++[z])++x::S2++R=(T++[z])++x::(S2++R) by simp,show (T++[z])++S2++x::R=((T++[z])++S2)++x::R by simp]
      refine List.perm_middle.trans (List.Perm.trans ?_ List.perm_middle.symm)
      simp
     have hidx: ∀y∈(T++[z])++x::S2,∀u∈R,y.1<u.1:=fun y hy u hu=>by
      rcases List.mem_append.1 hy with hy|hy
      ·exact hI4 y (by simp at hy ⊢;rcases hy with h|h<;>simp[h]) u (by simp[hu])
      ·rcases List.mem_cons.1 hy with rfl|hy
       ·exact hI3.1 u hu
       ·exact hI4 y (by simp[hy]) u (by simp[hu])
     have hzz:((a+((T++[z])++S2).length:Nat):Int)+1=((a+((T++[z])++x::S2).length:Nat):Int):=by simp;omega
     rw[←hnew]
     rw[←hnew]at hgx hgz hlm hLl
     clear hI1 hI2 hI4 hxS hL hcl hw hsw hJ2 hnew hLx hLz hS1
     repeat' first|(apply zwX;exact zD;rfl;rfl;intro σ' hl;refine zL ?_;exact lc _)|(refine xV ?_;and_intros<;>first|exact nl|intros)|refine zTdn ?_|fail
     rw[hzz]
     refine⟨((T++[z])++x::S2,R),⟨hperm,hup2,hI3.2,hidx,by simp⟩,by simp,?_⟩
     exact(St.le_of zC zJ)
theorem St.le_mk{env env':Env}{σ:List Ent}{m:List Nat}{n:Nat}(h: ∀t v,lk env' t=some v→lk env t=some v):St.le ⟨env,σ,m,n⟩ ⟨env',σ,m,n⟩:=⟨h,List.Sublist.refl _,rfl,rfl⟩
theorem ex_int{P:Program}{ro:Option Nat}{c:Code}{Q:Exit→St→Prop}{env:Env}{σ:List Ent}{mk:List Nat}{n t:Nat}{x y:Int}(h:lk env t=some (.int .i64 x))(e:x=y)(k:EX P ro c Q ⟨(t,.int .i64 y)::env,σ,mk,n⟩):EX P ro c Q ⟨env,σ,mk,n⟩:=by
 refine yS (s':=⟨(t,.int .i64 y)::env,σ,mk,n⟩) (St.le_mk fun u w hw=>?_) k
 by_cases hu:t=u
 ·subst hu
  rw[uU,←e]at hw
  exact h.trans hw
 ·rwa [qR hu]at hw
theorem lk_app{A B:List Ey}{k:Nat}{c:Ey}{n:Nat}(hn:A.length=n)(h:B[k]?=some c):(A++B)[n+k]?=some c:=by
 rw[List.getElem?_append_right (by omega),hn,Nat.add_sub_cancel_left];exact h
theorem lk_left{A B:List Ey}{k:Nat}{c:Ey}(h:A[k]?=some c):(A++B)[k]?=some c:=by
 rw[List.getElem?_append_left (List.getElem?_eq_some_iff.1 h).1];exact h
theorem merged_triv{A C:List Ey}(hA:A.Pairwise qA)(hC:C.Pairwise qA)(h:A=[]∨C=[]):MergedE A C (A++C):=by
 rcases h with rfl|rfl
 ·exact⟨List.Perm.refl _,by simpa using hC⟩
 ·exact⟨List.Perm.refl _,by simpa using hA⟩
abbrev symF:FuncId:=286
theorem sym_left(P Y Q:List Ey)(x:Ey)(a m b:Nat)(ha:P.length=a)(hm:a+1=m)(hb:m+Y.length=b)(hY:Y.Pairwise qA)(hL:Left [x] Y)(hl:(P++[x]++Y++Q).length≤100000)(v:Value)(σ:List Ent):
  SCall prog symF [.slv v,.int .i64 a,.int .i64 m,.int .i64 b,entF'] (rowE v (P++[x]++Y++Q)::σ) (fun r τ=>r=.tup []∧ ∃S,MergedE [x] Y S∧τ=rowE v (P++S++Q)::σ):=by
 refine zZ func286 rfl (by simp) ?_
 have hlx:a+1+Y.length+Q.length≤100000:=by simp at hl;omega
 obtain⟨L,hLd⟩: ∃L,P++[x]++Y++Q=L:=⟨_,rfl⟩
 have hLl:L.length=a+1+Y.length+Q.length:=by rw[←hLd];simp;omega
 have hLx:L[a]?=some x:=by rw[←hLd,show P++[x]++Y++Q=P++([x]++(Y++Q)) by simp];exact lk_app ha (k:=0) rfl
 have hLy: ∀k c,Y[k]?=some c→L[m+k]?=some c:=fun k c h=>by
  rw[←hLd,show P++[x]++Y++Q=(P++[x])++(Y++Q) by simp]
  exact lk_app (by simp;omega) (lk_left h)
 have hgx:=qK hLx
 have hlm:(L.map entC).length=L.length:=List.length_map _
 rw[hLd]
 clear hl
 refine uZ ?_;and_intros<;>first|exact nl|intros
 refine zU (fun(z:Nat×Nat)=>(⟨[(0,.slv v),(1,.int .i64 a),(2,.int .i64 m),(3,.int .i64 b),(4,entF'),(10,.int .i64 z.1),(11,.int .i64 z.2)],rowE v L::σ,[],f286.ntmps⟩:St)) (fun z=>m≤z.1∧z.1≤z.2∧z.2≤b∧(∀y,m<z.1→Y[z.1-m-1]?=some y→y.2.at_<x.2.at_)∧(∀y,Y[z.2-m]?=some y→¬ y.2.at_<x.2.at_)) (fun z=>z.2-z.1) (m,b) (⟨Nat.le_refl _,by dsimp only;omega,Nat.le_refl _,fun y h=>by dsimp only at h;omega,fun y h=>by dsimp only at h;rw[List.getElem?_eq_none (by omega)]at h;cases h⟩) (St.le_of zC yY) ?_
 intro z hI
 obtain⟨i,j⟩:=z
 obtain⟨hI1,hI2,hI3,hI4,hI5⟩:=hI
 dsimp only at hI1 hI2 hI3 hI4 hI5 ⊢
 by_cases hij:i<j
 ·obtain⟨q,hh⟩: ∃q,(i+j)/2=q:=⟨_,rfl⟩
  have hij2:(i:Int)+(j:Int)=((i+j:Nat):Int):=by omega
  have hhz:(((i+j)/2:Nat):Int)=(q:Int):=by rw[hh]
  obtain⟨y,hy⟩: ∃y,Y[q-m]?=some y:=vJ (by omega)
  have hLh:=hLy _ _ hy
  rw[show m+(q-m)=q by omega]at hLh
  have hgy:=qK hLh
  have lc:=less_c y x
  obtain⟨c,hc⟩: ∃c,wQ y.2.at_ x.2.at_=c:=⟨_,rfl⟩
  have hcl:=@cmpI_lt y.2.at_ x.2.at_
  rw[hc]at lc hcl
  by_cases hless:c<0
  ·have h4: ∀u,m<q+1→Y[q+1-m-1]?=some u→u.2.at_<x.2.at_:=fun u _ hu=>by
    rw[show q+1-m-1=q-m by omega,hy]at hu
    cases hu;exact hcl.1 hless
   clear hI4 hcl hLy hY hL hc hLx hy hLh
   repeat' first|(refine zB ?_;intros)|(apply qX;exact zD;rfl;rfl;first|((apply kB;rfl;rfl;rfl;exact⟨by omega,by omega⟩))|((apply kC;rfl;rfl;rfl;exact hij2)))|(refine xB ?_;intros)|refine zTd ?_|(apply zwX;exact zD;rfl;rfl;intro σ' hl;refine zL ?_;exact lc _)|(refine yV ?_ ?_<;>(intro z;cases z with|_ h)<;>intro hp)|exact nl|fail
   rw[hhz]
   refine⟨(q+1,j),⟨by dsimp only;omega,by dsimp only;omega,hI3,h4,hI5⟩,by dsimp only;omega,?_⟩
   dsimp only
   exact(St.le_of zC zJ)
  ·have h5: ∀u,Y[q-m]?=some u→¬ u.2.at_<x.2.at_:=fun u hu=>by
    rw[hy]at hu
    cases hu;exact mt hcl.2 hless
   clear hI5 hcl hLy hY hL hc hLx hy hLh
   repeat' first|(refine zB ?_;intros)|(apply qX;exact zD;rfl;rfl;first|((apply kB;rfl;rfl;rfl;exact⟨by omega,by omega⟩))|((apply kC;rfl;rfl;rfl;exact hij2)))|(refine xB ?_;intros)|refine zTd ?_|(apply zwX;exact zD;rfl;rfl;intro σ' hl;refine zL ?_;exact lc _)|(refine yV ?_ ?_<;>(intro z;cases z with|_ h)<;>intro hp)|exact nl|fail
   rw[hhz]
   refine⟨(i,q),⟨hI1,by dsimp only;omega,by dsimp only;omega,hI4,h5⟩,by dsimp only;omega,?_⟩
   dsimp only
   exact(St.le_of zC zJ)
 ·obtain rfl:i=j:=by omega
  obtain⟨k,hk⟩: ∃k,i-m=k:=⟨_,rfl⟩
  rw[hk]at hI4 hI5
  have hmer:=merged_left_at (x:=x) hY hL (k:=k) (by omega) (fun y h0 hy=>hI4 y (by omega) hy) hI5
  clear hI4 hI5 hLx hgx hL hY hLy
  have hik:(i:Int)-1=((a+k:Nat):Int):=by omega
  refine uZ ?_;and_intros<;>first|exact nl|intros
  rw[←hLd,show P++[x]++Y++Q=P++Y.take 0++x::Y.drop 0++Q by simp]
  refine zU (fun(t:Nat)=>(⟨[(0,.slv v),(10,.int .i64 i),(13,.int .i64 ((a+t:Nat):Int))],rowE v (P++Y.take t++x::Y.drop t++Q)::σ,[],f286.ntmps⟩:St)) (fun t=>t≤k) (fun t=>k-t) 0 (Nat.zero_le _) (St.le_of zC yY) ?_
  intro t hI
  clear hLd hLl hlm
  by_cases htk:t<k
  ·obtain⟨y,hy⟩: ∃y,Y[t]?=some y:=vJ (by omega)
   have hPt:(P++Y.take t).length=a+t:=by rw[List.length_append,List.length_take];omega
   have hsw:=swp2_up (A:=P++Y.take t) (C:=Y.drop (t+1)++Q) (x:=x) (y:=y)
   have e1:P++Y.take t++x::Y.drop t++Q=P++Y.take t++x::y::(Y.drop (t+1)++Q):=by rw[drop_get hy];simp
   have e2:P++Y.take (t+1)++x::Y.drop (t+1)++Q=P++Y.take t++y::x::(Y.drop (t+1)++Q):=by rw[take_get hy];simp
   rw[hPt,←e1,←e2]at hsw
   obtain⟨M,hM⟩: ∃M,P++Y.take t++x::Y.drop t++Q=M:=⟨_,rfl⟩
   have hMx:M[a+t]?=some x:=by rw[←hM,e1,←hPt];simp
   have hMy:M[a+t+1]?=some y:=by rw[←hM,e1,←hPt,List.getElem?_append_right (by omega)];simp
   have hMl:M.length=a+1+Y.length+Q.length:=by rw[←hM];simp[List.length_take];omega
   rw[hM]at hsw ⊢
   clear hM e1 e2
   have hgx:=qK hMx
   have hgy:=qK hMy
   have hw:=swp2_map hMx hMy
   rw[hsw]at hw
   have hwr: ∀v,rowE v (P++Y.take (t+1)++x::Y.drop (t+1)++Q)=Ent.row v 35 9 (((M.map entC).set (a+t) (entC y)).set (a+t+1) (entC x)):=fun v=>by
    show Ent.row _ _ _ _=_
    rw[hw]
   have hlm:(M.map entC).length=M.length:=List.length_map _
   have hz1:((a+t:Nat):Int)+1=((a+t+1:Nat):Int):=by omega
   have hMne:M≠[]:=fun e=>by rw[e]at hMx;simp at hMx
   have hlt:((a+t:Nat):Int)<((a+k:Nat):Int):=by omega
   rw[←hik]at hlt
   clear hsw hw hy hMx hMy
   refine ex_rowV (L:=M.map entC) (.head _) (fun e=>hMne (List.map_eq_nil_iff.1 e)) ?_
   rintro g cap rfl
   rw[hlm]
   refine yW ?_;intros
   refine yB (fun _=>False) [9,13,15] 16 rfl (by kernel_rfl) rfl ?_
   simp only[List.take_succ_cons,List.take_zero,List.drop_succ_cons,List.drop_zero]
   repeat' first|(refine zgd ?_;first|(apply xH;rfl;rfl;(apply g_loadAgg;rfl;decide;rfl;(exact .k0 yP (by assumption) rfl rfl)))|(apply drs_do;rfl;rfl;(focus (apply vB;rfl;rfl;rfl;rfl;rfl;rfl;rotate_left;exact qJ;(first|assumption|omega|(simp only[List.length_map];omega))));exact zks))|(refine zge ?_;(apply yE;rfl;rfl;focus (apply vB;rfl;rfl;rfl;rfl;rfl;rfl;rotate_left;exact qJ;(first|assumption|omega|(simp only[List.length_map];omega)|(simp only[List.length_set,List.length_map];omega)))))|(refine zB ?_;intros)|(apply zvI;exact zD;rfl;intro σ' hl;(apply g_indexRaw;rfl;rfl;rfl;(first|assumption|rfl);(first|assumption|omega)))|(refine xB ?_;intros)|refine vX rfl rfl rfl ?_ ?_|fail
   all_goals
    refine⟨t+1,htk,by omega,?_⟩
    rw[hwr]
    exact(St.le_of zC zJ)
  ·obtain rfl:t=k:=by omega
   have hge:¬ (((a+t:Nat):Int)<(i:Int)-1):=by omega
   rw[show P++Y.take t++x::Y.drop t++Q=P++(Y.take t++x::Y.drop t)++Q by simp]
   refine uZ ?_;and_intros<;>first|exact nl|intros
   refine zS (σ3:=rowE v (P++(Y.take t++x::Y.drop t)++Q)::σ) .nil zG zJ ?_
   exact zY ⟨rfl,_,hmer,rfl⟩
theorem sym_right(P X Q:List Ey)(y:Ey)(a m b:Nat)(ha:P.length=a)(hm:a+X.length=m)(hb:m+1=b)(hX2:2≤X.length)(hX:X.Pairwise qA)(hL:Left X [y])(hl:(P++X++[y]++Q).length≤100000)(v:Value)(σ:List Ent):
  SCall prog symF [.slv v,.int .i64 a,.int .i64 m,.int .i64 b,entF'] (rowE v (P++X++[y]++Q)::σ) (fun r τ=>r=.tup []∧ ∃S,MergedE X [y] S∧τ=rowE v (P++S++Q)::σ):=by
 refine zZ func286 rfl (by simp) ?_
 have hlx:a+X.length+1+Q.length≤100000:=by simp at hl;omega
 obtain⟨L,hLd⟩: ∃L,P++X++[y]++Q=L:=⟨_,rfl⟩
 have hLl:L.length=a+X.length+1+Q.length:=by rw[←hLd];simp;omega
 have hLy:L[m]?=some y:=by
  rw[←hLd,show P++X++[y]++Q=(P++X)++([y]++Q) by simp];exact lk_app (by simp;omega) (k:=0) rfl
 have hLx: ∀k c,X[k]?=some c→L[a+k]?=some c:=fun k c h=>by
  rw[←hLd,show P++X++[y]++Q=P++(X++([y]++Q)) by simp]
  exact lk_app ha (lk_left h)
 have hgy:=qK hLy
 have hlm:(L.map entC).length=L.length:=List.length_map _
 have hn1:¬ ((m:Int)-(a:Int)=1):=by omega
 have hb1:(b:Int)-(m:Int)=1:=by omega
 rw[hLd]
 clear hl
 refine uZ ?_;and_intros<;>first|exact nl|intros
 refine zU (fun(z:Nat×Nat)=>(⟨[(0,.slv v),(1,.int .i64 a),(2,.int .i64 m),(3,.int .i64 b),(4,entF'),(14,.int .i64 z.1),(15,.int .i64 z.2)],rowE v L::σ,[],f286.ntmps⟩:St)) (fun z=>a≤z.1∧z.1≤z.2∧z.2≤m∧(∀x,a<z.1→X[z.1-a-1]?=some x→¬ y.2.at_<x.2.at_)∧(∀x,X[z.2-a]?=some x→y.2.at_<x.2.at_)) (fun z=>z.2-z.1) (a,m) (⟨Nat.le_refl _,by dsimp only;omega,Nat.le_refl _,fun y h=>by dsimp only at h;omega,fun y h=>by dsimp only at h;rw[List.getElem?_eq_none (by omega)]at h;cases h⟩) (St.le_of zC yY) ?_
 intro z hI
 obtain⟨i,j⟩:=z
 obtain⟨hI1,hI2,hI3,hI4,hI5⟩:=hI
 dsimp only at hI1 hI2 hI3 hI4 hI5 ⊢
 by_cases hij:i<j
 ·obtain⟨q,hh⟩: ∃q,(i+j)/2=q:=⟨_,rfl⟩
  have hij2:(i:Int)+(j:Int)=((i+j:Nat):Int):=by omega
  have hhz:(((i+j)/2:Nat):Int)=(q:Int):=by rw[hh]
  obtain⟨x,hx⟩: ∃x,X[q-a]?=some x:=vJ (by omega)
  have hLh:=hLx _ _ hx
  rw[show a+(q-a)=q by omega]at hLh
  have hgx:=qK hLh
  have lc:=less_c y x
  obtain⟨c,hc⟩: ∃c,wQ y.2.at_ x.2.at_=c:=⟨_,rfl⟩
  have hcl:=@cmpI_lt y.2.at_ x.2.at_
  rw[hc]at lc hcl
  by_cases hless:c<0
  ·have h5: ∀u,X[q-a]?=some u→y.2.at_<u.2.at_:=fun u hu=>by
    rw[hx]at hu
    cases hu;exact hcl.1 hless
   clear hI5 hcl hLy hX hL hc hLx hx hLh
   repeat' first|(refine zB ?_;intros)|(apply qX;exact zD;rfl;rfl;first|((apply kB;rfl;rfl;rfl;exact⟨by omega,by omega⟩))|((apply kC;rfl;rfl;rfl;exact hij2)))|(refine xB ?_;intros)|refine zTd ?_|(apply zwX;exact zD;rfl;rfl;intro σ' hl;refine zL ?_;exact lc _)|(refine yV ?_ ?_<;>(intro z;cases z with|_ h)<;>intro hp)|exact nl|cases ‹BV _ _›|fail
   ·exfalso
    have hq:(!decide (c<0))=true:=by assumption
    simp[hless]at hq
   ·rw[hhz]
    refine⟨(i,q),⟨hI1,by dsimp only;omega,by dsimp only;omega,hI4,h5⟩,by dsimp only;omega,?_⟩
    dsimp only
    exact(St.le_of zC zJ)
  ·have h4: ∀u,a<q+1→X[q+1-a-1]?=some u→¬ y.2.at_<u.2.at_:=fun u _ hu=>by
    rw[show q+1-a-1=q-a by omega,hx]at hu
    cases hu;exact mt hcl.2 hless
   clear hI4 hcl hLy hX hL hc hLx hx hLh
   repeat' first|(refine zB ?_;intros)|(apply qX;exact zD;rfl;rfl;first|((apply kB;rfl;rfl;rfl;exact⟨by omega,by omega⟩))|((apply kC;rfl;rfl;rfl;exact hij2)))|(refine xB ?_;intros)|refine zTd ?_|(apply zwX;exact zD;rfl;rfl;intro σ' hl;refine zL ?_;exact lc _)|(refine yV ?_ ?_<;>(intro z;cases z with|_ h)<;>intro hp)|exact nl|cases ‹BV _ _›|fail
   ·rw[hhz]
    refine⟨(q+1,j),⟨by dsimp only;omega,by dsimp only;omega,hI3,h4,hI5⟩,by dsimp only;omega,?_⟩
    dsimp only
    exact(St.le_of zC zJ)
   ·exfalso
    have hq:(!decide (c<0))=false:=by assumption
    simp at hq
    exact hless hq
 ·obtain rfl:i=j:=by omega
  obtain⟨k,hk⟩: ∃k,i-a=k:=⟨_,rfl⟩
  rw[hk]at hI4 hI5
  have hmer:=merged_right_at (y:=y) hX hL (k:=k) (by omega) (fun x h0 hx=>hI4 x (by omega) hx) hI5
  clear hI4 hI5 hLy hgy hL hX hLx
  have hik:i=a+k:=by omega
  have hmX:m=a+X.length:=by omega
  have hkX:k≤X.length:=by omega
  subst hik hmX
  refine uZ ?_;and_intros<;>first|exact nl|intros
  rw[←hLd,show P++X++[y]++Q=P++X.take X.length++y::X.drop X.length++Q by simp]
  refine zU (fun(t:Nat)=>(⟨[(0,.slv v),(14,.int .i64 ((a+k:Nat):Int)),(17,.int .i64 ((a+t:Nat):Int))],rowE v (P++X.take t++y::X.drop t++Q)::σ,[],f286.ntmps⟩:St)) (fun t=>k≤t∧t≤X.length) (fun t=>t-k) X.length (⟨hkX,Nat.le_refl _⟩) (St.le_of zC yY) ?_
  intro t hI
  obtain⟨hJ1,hJ2⟩:=hI
  clear hLd hLl hlm
  by_cases htk:k<t
  ·obtain⟨s,rfl⟩: ∃s,t=s+1:=⟨t-1,by omega⟩
   obtain⟨x,hx⟩: ∃x,X[s]?=some x:=vJ (by omega)
   have hPt:(P++X.take s).length=a+s:=by rw[List.length_append,List.length_take];omega
   have hsw:=swp2_down (A:=P++X.take s) (C:=X.drop (s+1)++Q) (x:=x) (y:=y)
   have e1:P++X.take (s+1)++y::X.drop (s+1)++Q=P++X.take s++x::y::(X.drop (s+1)++Q):=by rw[take_get hx];simp
   have e2:P++X.take s++y::X.drop s++Q=P++X.take s++y::x::(X.drop (s+1)++Q):=by rw[drop_get hx];simp
   rw[hPt,←e1,←e2]at hsw
   obtain⟨M,hM⟩: ∃M,P++X.take (s+1)++y::X.drop (s+1)++Q=M:=⟨_,rfl⟩
   have hMx:M[a+s]?=some x:=by rw[←hM,e1,←hPt];simp
   have hMy:M[a+s+1]?=some y:=by rw[←hM,e1,←hPt,List.getElem?_append_right (by omega)];simp
   have hMl:M.length=a+X.length+1+Q.length:=by rw[←hM];simp[List.length_take];omega
   rw[hM]at hsw ⊢
   clear hM e1 e2
   have hgx:=qK hMx
   have hgy:=qK hMy
   have hw:=swp2_map hMy hMx
   rw[hsw]at hw
   have hwr: ∀v,rowE v (P++X.take s++y::X.drop s++Q)=Ent.row v 35 9 (((M.map entC).set (a+s+1) (entC x)).set (a+s) (entC y)):=fun v=>by
    show Ent.row _ _ _ _=_
    rw[hw]
   have hlm:(M.map entC).length=M.length:=List.length_map _
   have hz1:((a+(s+1):Nat):Int)-1=((a+s:Nat):Int):=by omega
   have hz2:((a+(s+1):Nat):Int)=((a+s+1:Nat):Int):=by omega
   have hMne:M≠[]:=fun e=>by rw[e]at hMx;simp at hMx
   have hgt:((a+k:Nat):Int)<((a+(s+1):Nat):Int):=by omega
   clear hsw hw hx hMx hMy
   refine ex_rowV (L:=M.map entC) (.head _) (fun e=>hMne (List.map_eq_nil_iff.1 e)) ?_
   rintro g cap rfl
   rw[hlm]
   refine yW ?_;intros
   refine yB (fun _=>False) [9,13,15] 16 rfl (by kernel_rfl) rfl ?_
   simp only[List.take_succ_cons,List.take_zero,List.drop_succ_cons,List.drop_zero]
   repeat' first|(refine zgd ?_;first|(apply xH;rfl;rfl;(apply g_loadAgg;rfl;decide;rfl;(exact .k0 yP (by assumption) rfl rfl)))|(apply drs_do;rfl;rfl;(focus (apply vB;rfl;rfl;rfl;rfl;rfl;rfl;rotate_left;exact qJ;(first|assumption|omega|(simp only[List.length_map];omega))));exact zks))|(refine zge ?_;(apply yE;rfl;rfl;focus (apply vB;rfl;rfl;rfl;rfl;rfl;rfl;rotate_left;exact qJ;(first|assumption|omega|(simp only[List.length_map];omega)|(simp only[List.length_set,List.length_map];omega)))))|(refine zB ?_;intros)|(apply zvI;exact zD;rfl;intro σ' hl;(apply g_indexRaw;rfl;rfl;rfl;(first|assumption|rfl);(first|assumption|omega)))|(refine xB ?_;intros)|refine vX rfl rfl rfl ?_ ?_|fail
   all_goals
    rw[hz1]
    refine⟨s,⟨by omega,by omega⟩,by omega,?_⟩
    rw[hwr]
    exact(St.le_of zC zJ)
  ·obtain rfl:t=k:=by omega
   rw[show P++X.take t++y::X.drop t++Q=P++(X.take t++y::X.drop t)++Q by simp]
   refine uZ ?_;and_intros<;>first|exact nl|intros
   refine zS (σ3:=rowE v (P++(X.take t++y::X.drop t)++Q)::σ) .nil zG zJ ?_
   exact zY ⟨rfl,_,hmer,rfl⟩
end Go.Proofs.YtaoaafdommlhcaaGreat
