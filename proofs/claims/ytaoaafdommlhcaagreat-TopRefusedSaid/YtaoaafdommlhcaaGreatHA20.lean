/- Parts of the proof that belong together: Ui Uj Scl Di. -/
import Derived.Test.YtaoaafdommlhcaaGreatHA07
import Derived.Test.YtaoaafdommlhcaaGreatHA11
import Derived.Test.YtaoaafdommlhcaaGreatHA19
set_option maxRecDepth 10000
set_option maxHeartbeats 16000000
set_option linter.unusedSimpArgs false
set_option linter.unusedVariables false
set_option autoImplicit false
open Go.Proofs.Tryz
namespace Go.Proofs.YtaoaafdommlhcaaGreat
theorem nil_len{α:Type}{l:List α}(h:l.length=0):l=[]:=List.eq_nil_of_length_eq_zero h
theorem len_pos{α:Type}{l:List α}(h:0<l.length):l≠[]:=List.length_pos_iff.1 h
theorem sym_c: ∀(N:Nat) (P X Y Q:List Ey) (a m b:Nat),P.length=a→a+X.length=m→m+Y.length=b→X≠[]→Y≠[]→X.Pairwise qA→Y.Pairwise qA→Left X Y→a+X.length+Y.length+Q.length≤100000→X.length+Y.length≤N→ ∀(v:Value) (σ:List Ent),
  SCall prog symF [.slv v,.int .i64 a,.int .i64 m,.int .i64 b,entF'] (rowE v (P++X++Y++Q)::σ) (fun r τ=>r=.tup []∧ ∃S,MergedE X Y S∧τ=rowE v (P++S++Q)::σ):=by
 intro N
 induction N with
 |zero=>
  intro P X Y Q a m b ha hm hb hX0 hY0 hX hY hL hl hN
  have:=List.length_pos_iff.2 hX0
  omega
 |succ N ih=>
  intro P X Y Q a m b ha hm hb hX0 hY0 hX hY hL hl hN v σ
  have hxp:=List.length_pos_iff.2 hX0
  have hyp:=List.length_pos_iff.2 hY0
  by_cases hx1:X.length=1
  ·obtain⟨x,rfl⟩:=List.length_eq_one_iff.1 hx1
   exact sym_left P Y Q x a m b ha (by simpa using hm) hb hY hL (by simp at *;omega) v σ
  by_cases hy1:Y.length=1
  ·obtain⟨y,rfl⟩:=List.length_eq_one_iff.1 hy1
   exact sym_right P X Q y a m b ha hm (by simpa using hb) (by omega) hX hL (by simp at *;omega) v σ
  refine zZ func286 rfl (by simp) ?_
  obtain⟨mid,hmid⟩: ∃mid,(a+b)/2=mid:=⟨_,rfl⟩
  obtain⟨n,hn⟩: ∃n,mid+m=n:=⟨_,rfl⟩
  obtain⟨pp,hpp⟩: ∃pp,n-1=pp:=⟨_,rfl⟩
  have hab2:(a:Int)+(b:Int)=((a+b:Nat):Int):=by omega
  have hmz:(((a+b)/2:Nat):Int)=(mid:Int):=by rw[hmid]
  have hnm1:¬ ((m:Int)-(a:Int)=1):=by omega
  have hnm2:¬ ((b:Int)-(m:Int)=1):=by omega
  obtain⟨lo,hi,hlh⟩: ∃lo hi:Nat,(mid<m∧lo+b=n∧hi=mid)∨(m≤mid∧lo=a∧hi=m):=by
   by_cases h:mid<m
   ·exact⟨n-b,mid,.inl ⟨h,by omega,rfl⟩⟩
   ·exact⟨a,m,.inr ⟨by omega,rfl,rfl⟩⟩
  have hb1:a≤lo∧lo≤hi∧hi≤m∧m+hi≤n∧n≤lo+b∧a<mid∧mid<b:=by omega
  obtain⟨L,hLd⟩: ∃L,P++X++Y++Q=L:=⟨_,rfl⟩
  have hLl:L.length=a+X.length+Y.length+Q.length:=by rw[←hLd];simp;omega
  have hLx: ∀k c,X[k]?=some c→L[a+k]?=some c:=fun k c h=>by
   rw[←hLd,show P++X++Y++Q=P++(X++(Y++Q)) by simp]
   exact lk_app ha (lk_left h)
  have hLy: ∀k c,Y[k]?=some c→L[m+k]?=some c:=fun k c h=>by
   rw[←hLd,show P++X++Y++Q=(P++X)++(Y++Q) by simp]
   exact lk_app (by simp;omega) (lk_left h)
  have hlm:(L.map entC).length=L.length:=List.length_map _
  rw[hLd]
  clear hx1 hy1
  repeat' first|(refine zB ?_;intros)|(apply qX;exact zD;rfl;rfl;first|((apply kB;rfl;rfl;rfl;exact⟨by omega,by omega⟩))|((apply kC;rfl;rfl;rfl;exact hab2)))|(refine yV ?_ ?_<;>(intro z;cases z with|_ h)<;>intro hp)|exact nl|fail
  all_goals
   rw[hmz]
   refine ex_int (t:=19) (y:=(n:Int)) rfl (by omega) ?_
   refine ex_int (t:=20) (y:=(lo:Int)) rfl (by omega) ?_
   refine ex_int (t:=21) (y:=(hi:Int)) rfl (by omega) ?_
   refine ex_int (t:=22) (y:=(pp:Int)) rfl (by omega) ?_
   refine zU (fun(z:Nat×Nat)=>(⟨[(0,.slv v),(1,.int .i64 a),(2,.int .i64 m),(3,.int .i64 b),(4,entF'),(18,.int .i64 mid),(19,.int .i64 n),(22,.int .i64 pp),(20,.int .i64 z.1),(21,.int .i64 z.2)],rowE v L::σ,[],f286.ntmps⟩:St)) (fun z=>lo≤z.1∧z.1≤z.2∧z.2≤hi∧(∀x y,lo<z.1→L[z.1-1]?=some x→L[pp-(z.1-1)]?=some y→¬ y.2.at_<x.2.at_)∧(∀x y,z.2<hi→L[z.2]?=some x→L[pp-z.2]?=some y→y.2.at_<x.2.at_)) (fun z=>z.2-z.1) (lo,hi) (⟨Nat.le_refl _,by dsimp only;omega,Nat.le_refl _,fun x y h=>by dsimp only at h;omega,fun x y h=>by dsimp only at h;omega⟩) (St.le_of zC yY) ?_
   intro z hI
   obtain⟨i,j⟩:=z
   obtain⟨hI1,hI2,hI3,hI4,hI5⟩:=hI
   dsimp only at hI1 hI2 hI3 hI4 hI5 ⊢
   by_cases hij:i<j
   ·obtain⟨q,hh⟩: ∃q,(i+j)/2=q:=⟨_,rfl⟩
    have hij2:(i:Int)+(j:Int)=((i+j:Nat):Int):=by omega
    have hhz:(((i+j)/2:Nat):Int)=(q:Int):=by rw[hh]
    have hqb:lo≤q∧q<hi:=by omega
    obtain⟨w,hw⟩: ∃w,pp-q=w:=⟨_,rfl⟩
    have hwz:(pp:Int)-(((i+j)/2:Nat):Int)=(w:Int):=by omega
    obtain⟨x,hx⟩: ∃x,X[q-a]?=some x:=vJ (by omega)
    obtain⟨y,hy⟩: ∃y,Y[w-m]?=some y:=vJ (by omega)
    have hLq:=hLx _ _ hx
    rw[show a+(q-a)=q by omega]at hLq
    have hLw:=hLy _ _ hy
    rw[show m+(w-m)=w by omega]at hLw
    have hgx:=qK hLq
    have hgy:=qK hLw
    have lc:=less_c y x
    obtain⟨c,hc⟩: ∃c,wQ y.2.at_ x.2.at_=c:=⟨_,rfl⟩
    have hcl:=@cmpI_lt y.2.at_ x.2.at_
    rw[hc]at lc hcl
    by_cases hless:c<0
    ·have h5: ∀u z,q<hi→L[q]?=some u→L[pp-q]?=some z→z.2.at_<u.2.at_:=fun u z _ hu hz=>by
      rw[hLq]at hu
      rw[hw,hLw]at hz
      cases hu;cases hz;exact hcl.1 hless
     clear hI5 hcl hLy hLx hX hY hL hc hx hy hLq hLw ih hlh hLd
     repeat' first|(refine zB ?_;intros)|(apply qX;exact zD;rfl;rfl;first|((apply kB;rfl;rfl;rfl;exact⟨by omega,by omega⟩))|((apply kC;rfl;rfl;rfl;exact hij2)))|(refine xB ?_;intros)|refine zTd ?_|(apply zwX;exact zD;rfl;rfl;intro σ' hl;refine zL ?_;exact lc _)|(refine yV ?_ ?_<;>(intro z;cases z with|_ h)<;>intro hp)|exact nl|cases ‹BV _ _›|fail
     ·exfalso
      have hq:(!decide (c<0))=true:=by assumption
      simp[hless]at hq
     ·rw[hhz]
      refine⟨(i,q),⟨hI1,by dsimp only;omega,by dsimp only;omega,hI4,h5⟩,by dsimp only;omega,?_⟩
      dsimp only
      exact(St.le_of zC zJ)
    ·have h4: ∀u z,lo<q+1→L[q+1-1]?=some u→L[pp-(q+1-1)]?=some z→¬ z.2.at_<u.2.at_:=fun u z _ hu hz=>by
      rw[Nat.add_sub_cancel,hLq]at hu
      rw[Nat.add_sub_cancel,hw,hLw]at hz
      cases hu;cases hz;exact mt hcl.2 hless
     clear hI4 hcl hLy hLx hX hY hL hc hx hy hLq hLw ih hlh hLd
     repeat' first|(refine zB ?_;intros)|(apply qX;exact zD;rfl;rfl;first|((apply kB;rfl;rfl;rfl;exact⟨by omega,by omega⟩))|((apply kC;rfl;rfl;rfl;exact hij2)))|(refine xB ?_;intros)|refine zTd ?_|(apply zwX;exact zD;rfl;rfl;intro σ' hl;refine zL ?_;exact lc _)|(refine yV ?_ ?_<;>(intro z;cases z with|_ h)<;>intro hp)|exact nl|cases ‹BV _ _›|fail
     ·rw[hhz]
      refine⟨(q+1,j),⟨by dsimp only;omega,by dsimp only;omega,hI3,h4,hI5⟩,by dsimp only;omega,?_⟩
      dsimp only
      exact(St.le_of zC zJ)
     ·exfalso
      have hq:(!decide (c<0))=false:=by assumption
      simp at hq
      exact hless hq
   ·obtain rfl:i=j:=by omega
    clear hij
    obtain⟨en,hen⟩: ∃en,n-i=en:=⟨_,rfl⟩
    have henz:(n:Int)-(i:Int)=(en:Int):=by omega
    have hbn:a≤i∧i≤m∧m≤en∧en≤b∧i+en=mid+m:=by omega
    obtain⟨s,hs⟩: ∃s,i-a=s:=⟨_,rfl⟩
    obtain⟨e,he⟩: ∃e,en-m=e:=⟨_,rfl⟩
    have hsX:s≤X.length:=by omega
    have heY:e≤Y.length:=by omega
    have hpar:=sym_parts hX hY hL hsX heY (fun x y h0 hx hy=>by
      have h1:=hLx _ _ hx
      have h2:=hLy _ _ hy
      have hyl:=(List.getElem?_eq_some_iff.1 hy).1
      rw[show a+(s-1)=i-1 by omega]at h1
      rw[show m+e=pp-(i-1) by omega]at h2
      exact hI4 x y (by omega) h1 h2) (fun x y h0 hx hy=>by
      have h1:=hLx _ _ hx
      have h2:=hLy _ _ hy
      have hxl:=(List.getElem?_eq_some_iff.1 hx).1
      rw[show a+s=i by omega]at h1
      rw[show m+(e-1)=pp-i by omega]at h2
      exact hI5 x y (by omega) h1 h2)
    have hXe:X.take s++X.drop s=X:=List.take_append_drop s X
    have hYe:Y.take e++Y.drop e=Y:=List.take_append_drop e Y
    have hA:=hX.take (i:=s)
    have hB:=hX.drop (i:=s)
    have hC:=hY.take (i:=e)
    have hD:=hY.drop (i:=e)
    have hAl:(X.take s).length=i-a:=by rw[List.length_take];omega
    have hBl:(X.drop s).length=m-i:=by rw[List.length_drop];omega
    have hCl:(Y.take e).length=en-m:=by rw[List.length_take];omega
    have hDl:(Y.drop e).length=b-en:=by rw[List.length_drop];omega
    have hLA:Left (X.take s) (Y.take e):=left_sub hL (fun x hx=>List.mem_of_mem_take hx) (fun y hy=>List.mem_of_mem_take hy)
    have hLB:Left (X.drop s) (Y.drop e):=left_sub hL (fun x hx=>List.mem_of_mem_drop hx) (fun y hy=>List.mem_of_mem_drop hy)
    have hfin: ∀S T,MergedE (X.take s) (Y.take e) S→MergedE (X.drop s) (Y.drop e) T→MergedE X Y (S++T):=fun S T h1 h2=>by
     have:=merged_two h1 h2 hpar
     rwa [hXe,hYe]at this
    have hL0:L=P++X.take s++X.drop s++Y.take e++(Y.drop e++Q):=by
     rw[←hLd]
     have h1:P++X++Y++Q=P++(X.take s++X.drop s)++(Y.take e++Y.drop e)++Q:=by rw[hXe,hYe]
     rw[h1];simp only[List.append_assoc]
    clear hI4 hI5 hLx hLy hLd hpar hXe hYe hX hY hL hlh hX0 hY0
    generalize X.take s=A at *
    generalize X.drop s=B at *
    generalize Y.take e=C at *
    generalize Y.drop e=D at *
    have crot:i<m∧m<en→ ∀v σ,SCall prog 293 [.slv v,.int .i64 i,.int .i64 m,.int .i64 en,entF'] (rowE v L::σ) (fun r τ=>r=.tup []∧τ=rowE v (P++A++C++B++(D++Q))::σ):=fun h v σ=>by
     have:=rotate_c (P++A) B C (D++Q) i m en (by simp;omega) (by omega) (by omega) (len_pos (by omega)) (len_pos (by omega)) (by simp;omega) v σ
     rw[hL0];exact this
    have c1:a<i∧i<mid→ ∀v σ,SCall prog symF [.slv v,.int .i64 a,.int .i64 i,.int .i64 mid,entF'] (rowE v (P++A++C++B++(D++Q))::σ) (fun r τ=>r=.tup []∧ ∃S,MergedE A C S∧τ=rowE v (P++S++(B++(D++Q)))::σ):=fun h v σ=>by
     have:=ih P A C (B++(D++Q)) a i mid ha (by omega) (by omega) (len_pos (by omega)) (len_pos (by omega)) hA hC hLA (by simp;omega) (by omega) v σ
     rw[show P++A++C++B++(D++Q)=P++A++C++(B++(D++Q)) by simp];exact this
    have c2: ∀S,MergedE A C S→mid<en∧en<b→ ∀v σ,SCall prog symF [.slv v,.int .i64 mid,.int .i64 en,.int .i64 b,entF'] (rowE v (P++S++(B++(D++Q)))::σ) (fun r τ=>r=.tup []∧ ∃T,MergedE B D T∧τ=rowE v (P++(S++T)++Q)::σ):=fun S hS h v σ=>by
     have hSl:=hS.perm.length_eq
     rw[List.length_append]at hSl
     have:=ih (P++S) B D Q mid en b (by simp;omega) (by omega) (by omega) (len_pos (by omega)) (len_pos (by omega)) hB hD hLB (by omega) (by omega) v σ
     rw[show P++S++(B++(D++Q))=P++S++B++D++Q by simp]
     refine this.mono ?_
     rintro r τ ⟨h1,T,h2,h3⟩
     exact⟨h1,T,h2,by rw[h3];simp⟩
    have h01:¬ (i<m∧m<en)→L=P++A++C++B++(D++Q):=fun h=>by
     rw[hL0]
     by_cases h':i<m
     ·have:C=[]:=nil_len (by omega)
      subst this;simp
     ·have:B=[]:=nil_len (by omega)
      subst this;simp
    have hS0:¬ (a<i∧i<mid)→MergedE A C (A++C):=fun h=>merged_triv hA hC (by
     by_cases h':a<i
     ·exact .inr (nil_len (by omega))
     ·exact .inl (nil_len (by omega)))
    have hT0:¬ (mid<en∧en<b)→MergedE B D (B++D):=fun h=>merged_triv hB hD (by
     by_cases h':mid<en
     ·exact .inr (nil_len (by omega))
     ·exact .inl (nil_len (by omega)))
    have hF1:P++A++C++B++(D++Q)=P++(A++C)++(B++(D++Q)):=by simp
    have hF2: ∀S,P++S++(B++(D++Q))=P++(S++(B++D))++Q:=fun S=>by simp
    clear ih hA hB hC hD hLA hLB hL0 hlm hAl hBl hCl hDl hLl
    generalize P++A++C++B++(D++Q)=L1 at *
    by_cases hr:i<m∧m<en
    all_goals first|(have hq:=h01 hr;subst hq;clear h01)|clear h01
    all_goals by_cases h1:a<i∧i<mid
    all_goals first|(have hS:=hS0 h1;obtain⟨S,hSd⟩: ∃S,S=A++C:=⟨_,rfl⟩;rw[←hSd]at hS hF1;clear hS0 hSd;subst hF1)|clear hF1 hS0
    all_goals by_cases h2:mid<en∧en<b
    all_goals
     repeat' first|(refine zge ?_;first|(refine zK rfl rfl rfl (zQ rfl rfl (zX (by kernel_rfl)) (by rw[henz];exact crot hr _ _)) ?_;rintro _ _ ⟨rfl,rfl⟩)|(refine zK rfl rfl rfl (zQ rfl rfl (zX (by kernel_rfl)) (c1 h1 _ _)) ?_;rintro _ _ ⟨rfl,S,hS,rfl⟩)|(refine zK rfl rfl rfl (zQ rfl rfl (zX (by kernel_rfl)) (by rw[henz];exact c2 _ hS h2 _ _)) ?_;rintro _ _ ⟨rfl,T,hT,rfl⟩))|(refine yX ?_;intros)|(refine yV ?_ ?_<;>(intro z;cases z with|_ h)<;>intro hp)|exact nl|fail
     all_goals
      refine zS (σ3:=_::σ) .nil zG zJ ?_
      first
       |exact zY ⟨rfl,_,hfin _ _ hS hT,rfl⟩
       |exact zY ⟨rfl,_,hfin _ _ hS (hT0 h2),by rw[hF2]⟩
theorem stable_c(E:List Ey)(hE:E.Pairwise fun x y=>x.1<y.1)(hl:E.length≤2000)(v:Value)(σ:List Ent):
  SCall prog 262 [.slv v,.int .i64 (E.length:Nat),entF'] (rowE v E::σ) (fun r τ=>r=.tup []∧τ=rowE v (sortE E)::σ):=by
 refine zZ func262 rfl (by simp) ?_
 obtain⟨n,hn⟩: ∃n,E.length=n:=⟨_,rfl⟩
 rw[hn]
 refine yW ?_;intros
 refine zU (fun(z:List Bk×List Ey)=>(⟨[(0,.slv v),(1,.int .i64 n),(2,entF'),(6,.int .i64 20),(7,.int .i64 ((z.1.length*20:Nat):Int)),(8,.int .i64 ((z.1.length*20+20:Nat):Int))],rowE v (uB z.1++z.2)::σ,[],f262.ntmps⟩:St)) (fun z=>E=pH z.1++z.2∧BlocksE 20 z.1) (fun z=>z.2.length) ([],E) (⟨rfl,BlocksE.nil⟩) (St.le_of zC yY) ?_
 intro z hI
 obtain⟨B,R⟩:=z
 obtain⟨hI1,hI2⟩:=hI
 dsimp only at hI1 hI2 ⊢
 have hfl:=fsts_len hI2
 have hsl:=snds_len hI2
 have hEl:n=B.length*20+R.length:=by rw[←hn,hI1,List.length_append,hfl]
 have hRup:R.Pairwise fun x y=>x.1<y.1:=by rw[hI1]at hE;exact(List.pairwise_append.1 hE).2.1
 by_cases hb:B.length*20+20≤n
 ·obtain⟨X,R',hX,hX20⟩: ∃X R',R=X++R'∧X.length=20:=⟨R.take 20,R.drop 20,(List.take_append_drop _ _).symm,by rw[List.length_take];omega⟩
  have hXup:X.Pairwise fun x y=>x.1<y.1:=by rw[hX]at hRup;exact(List.pairwise_append.1 hRup).1
  have hRl:R.length=20+R'.length:=by rw[hX,List.length_append,hX20]
  have cc:=insertion_c (uB B) X R' (B.length*20) (B.length*20+20) hsl (by omega) hXup (by simp;omega) v σ
  have hrow:uB B++R=uB B++X++R':=by rw[hX];simp
  rw[hrow]
  have hnew: ∀S,S.Perm X→S.Pairwise qA→E=pH (B++[(X,S)])++R'∧BlocksE 20 (B++[(X,S)]):=fun S h1 h2=>⟨by rw[hI1,hX,fsts_app];simp[pH],hI2.app (.one ⟨h1,h2⟩ hX20)⟩
  have hsn: ∀S,uB B++S++R'=uB (B++[(X,S)])++R':=fun S=>by rw[snds_app];simp[uB]
  have hz1: ∀S:List Ey,((B++[(X,S)]).length*20:Nat)=B.length*20+20:=fun S=>by rw[List.length_append,List.length_singleton];omega
  have hz2:((B.length*20+20:Nat):Int)+20=((B.length*20+20+20:Nat):Int):=by omega
  clear hI1 hI2 hE hRup hXup hrow hX
  repeat' first|(refine zge ?_;(refine zK rfl rfl rfl (zQ rfl rfl (zX (by kernel_rfl)) cc) ?_;rintro _ _ ⟨rfl,S,hS1,hS2,rfl⟩))|(refine yX ?_;intros)|(refine yV ?_ ?_<;>(intro z;cases z with|_ h)<;>intro hp)|exact nl|fail
  rw[hsn,hz2]
  refine⟨(B++[(X,S)],R'),hnew S hS1 hS2,by dsimp only;omega,?_⟩
  dsimp only
  rw[hz1]
  exact(St.le_of zC zJ)
 ·have cc:=insertion_c (uB B) R [] (B.length*20) n hsl (by omega) hRup (by simp;omega) v σ
  simp only[List.append_nil]at cc
  have hRl:R.length<20:=by omega
  have hlast: ∀S,S.Perm R→S.Pairwise qA→E=pH B++(R,S).1∧GoodB (R,S):=fun S h1 h2=>⟨hI1,h1,h2⟩
  clear hRup
  repeat' first|(refine zge ?_;(refine zK rfl rfl rfl (zQ rfl rfl (zX (by kernel_rfl)) cc) ?_;rintro _ _ ⟨rfl,S,hS1,hS2,rfl⟩))|(refine yX ?_;intros)|(refine yV ?_ ?_<;>(intro z;cases z with|_ h)<;>intro hp)|exact nl|fail
  obtain⟨hl1,hl2⟩:=hlast S hS1 hS2
  refine zU (fun(z:List Bk×Bk×Nat)=>(⟨[(0,.slv v),(1,.int .i64 n),(2,entF'),(6,.int .i64 z.2.2)],rowE v (uB z.1++z.2.1.2)::σ,[],f262.ntmps⟩:St)) (fun z=>E=pH z.1++z.2.1.1∧BlocksE z.2.2 z.1∧GoodB z.2.1∧z.2.1.1.length<z.2.2∧z.2.2≤4000) (fun z=>n-z.2.2) (B,(R,S),20) (⟨hl1,hI2,hl2,hRl,by dsimp only;omega⟩) (St.le_of zC yY) ?_
  intro z hI
  clear cc hlast hl1 hl2 hS1 hS2 hRl hI1 hI2 hfl hsl hEl
  obtain⟨B,o,bs⟩:=z
  obtain⟨hI1,hI2,hI3,hI4,hI5⟩:=hI
  dsimp only at hI1 hI2 hI3 hI4 hI5 ⊢
  have hfl:=fsts_len hI2
  have hEl:n=B.length*bs+o.1.length:=by rw[←hn,hI1,List.length_append,hfl]
  by_cases hbn:bs<n
  ·obtain⟨d,hd⟩: ∃d,2*bs=d:=⟨_,rfl⟩
   have hdz:(2:Int)*(bs:Int)=(d:Int):=by omega
   have hdz2:(bs:Int)*2=(d:Int):=by omega
   refine yW ?_;intros
   rw[hdz]
   refine ex_int (t:=7) (y:=((([]:List Bk).length*d:Nat):Int)) rfl (by simp) ?_
   refine ex_int (t:=8) (y:=((([]:List Bk).length*d+d:Nat):Int)) rfl (by simp) ?_
   refine zU (fun(w:List Bk×List Bk)=>(⟨[(0,.slv v),(1,.int .i64 n),(2,entF'),(6,.int .i64 bs),(7,.int .i64 ((w.1.length*d:Nat):Int)),(8,.int .i64 ((w.1.length*d+d:Nat):Int))],rowE v (uB w.1++uB w.2++o.2)::σ,[],f262.ntmps⟩:St)) (fun w=>E=pH w.1++pH w.2++o.1∧BlocksE d w.1∧BlocksE bs w.2) (fun w=>w.2.length) ([],B) (⟨hI1,BlocksE.nil,hI2⟩) (St.le_of zC yY) ?_
   intro w hI
   clear hI1 hI2 hfl hEl
   obtain⟨D,C⟩:=w
   obtain⟨hJ1,hJ2,hJ3⟩:=hI
   dsimp only at hJ1 hJ2 hJ3 ⊢
   have hDl:=snds_len hJ2
   have hDf:=fsts_len hJ2
   have hol:o.2.length=o.1.length:=hI3.1.length_eq
   have hEl:n=D.length*d+(pH C).length+o.1.length:=by rw[←hn,hJ1,List.length_append,List.length_append,hDf]
   obtain⟨a,ha⟩: ∃a,D.length*d=a:=⟨_,rfl⟩
   have hnx: ∀p:Bk,(D++[p]).length*d=a+d:=fun p=>by rw[List.length_append,List.length_singleton,Nat.add_mul,ha];omega
   rw[ha]at hDl hEl ⊢
   match C,hJ1,hJ3,hEl with
   |[],hJ1,hJ3,hEl=>
    have hEl2:n=a+o.1.length:=by simpa [pH]using hEl
    have e1:E=pH D++o.1:=by simpa [pH]using hJ1
    have e2:uB D++uB []++o.2=uB D++o.2:=by simp[uB]
    rw[e2]
    clear hJ1 hJ3 hEl hDf
    refine yW ?_;intros
    rw[hdz2]
    refine⟨(D,o,d),⟨e1,hJ2,hI3,by dsimp only;omega,by dsimp only;omega⟩,by dsimp only;omega,?_⟩
    dsimp only
    exact(St.le_of zC zJ)
   |[p],hJ1,hJ3,hEl=>
    have hpl:=hJ3.size p (by simp)
    have hpg:=hJ3.good p (by simp)
    have hpl2:p.2.length=bs:=by rw[hpg.1.length_eq,hpl]
    have hEl2:n=a+bs+o.1.length:=by rw[hEl];simp[pH];omega
    have e0:E=pH D++p.1++o.1:=by rw[hJ1];simp[pH]
    have e2:uB D++uB [p]++o.2=uB D++p.2++o.2:=by simp[uB]
    rw[e2]
    by_cases ho:o.1.length=0
    ·have ho1:o.1=[]:=nil_len ho
     have ho2:o.2=[]:=nil_len (by omega)
     have e1:E=pH D++p.1:=by rw[e0,ho1];simp
     have e3:uB D++p.2++o.2=uB D++p.2:=by rw[ho2];simp
     rw[e3]
     clear hJ1 hJ3 hEl hDf e0 e2
     refine yW ?_;intros
     rw[hdz2]
     refine⟨(D,p,d),⟨e1,hJ2,hpg,by dsimp only;omega,by dsimp only;omega⟩,by dsimp only;omega,?_⟩
     dsimp only
     exact(St.le_of zC zJ)
    ·have hL:Left p.2 o.2:=left_of (A:=pH D) (X0:=p.1) (B:=[]) (Y0:=o.1) (C:=[]) hE (by rw[e0];simp) hpg.1 hI3.1
     have cc:=sym_c (p.2.length+o.2.length) (uB D) p.2 o.2 [] a (a+bs) n hDl (by omega) (by omega) (len_pos (by omega)) (len_pos (by omega)) hpg.2 hI3.2 hL (by simp;omega) (Nat.le_refl _) v σ
     simp only[List.append_nil]at cc
     have hm: ∀S,MergedE p.2 o.2 S→E=pH D++(p.1++o.1)∧GoodB (p.1++o.1,S):=fun S h=>⟨by rw[e0];simp,merged_good hpg hI3 h⟩
     have hml:(p.1++o.1).length<d:=by rw[List.length_append];omega
     have hz1:(a:Int)+(bs:Int)=((a+bs:Nat):Int):=by omega
     clear hJ1 hJ3 hEl hDf e0 e2
     repeat' first|(refine zge ?_;(refine zK rfl rfl rfl (zQ rfl rfl (zX (by kernel_rfl)) (by rw[hz1];exact cc)) ?_;rintro _ _ ⟨rfl,S,hS,rfl⟩))|(refine yX ?_;intros)|(refine yV ?_ ?_<;>(intro z;cases z with|_ h)<;>intro hp)|exact nl|fail
     rw[hdz2]
     refine⟨(D,(p.1++o.1,S),d),⟨(hm S hS).1,hJ2,(hm S hS).2,hml,by dsimp only;omega⟩,by dsimp only;omega,?_⟩
     dsimp only
     exact(St.le_of zC zJ)
   |p::q::C,hJ1,hJ3,hEl=>
    have hpl:=hJ3.size p (by simp)
    have hpg:=hJ3.good p (by simp)
    have hpl2:p.2.length=bs:=by rw[hpg.1.length_eq,hpl]
    have hql:=hJ3.size q (by simp)
    have hqg:=hJ3.good q (by simp)
    have hql2:q.2.length=bs:=by rw[hqg.1.length_eq,hql]
    have hC:BlocksE bs C:=⟨fun u hu=>hJ3.good u (by simp[hu]),fun u hu=>hJ3.size u (by simp[hu])⟩
    have hCl:=fsts_len hC
    have hCl2:=snds_len hC
    have hEl2:n=a+bs+bs+(pH C).length+o.1.length:=by rw[hEl,fsts_cons,fsts_cons,List.length_append,List.length_append];omega
    have e0:E=pH D++p.1++[]++q.1++(pH C++o.1):=by rw[hJ1,fsts_cons,fsts_cons];simp
    have e2:uB D++uB (p::q::C)++o.2=uB D++p.2++q.2++(uB C++o.2):=by rw[snds_cons,snds_cons];simp
    rw[e2]
    have hL:Left p.2 q.2:=left_of hE e0 hpg.1 hqg.1
    have cc:=sym_c (p.2.length+q.2.length) (uB D) p.2 q.2 (uB C++o.2) a (a+bs) (a+d) hDl (by omega) (by omega) (len_pos (by omega)) (len_pos (by omega)) hpg.2 hqg.2 hL (by rw[List.length_append];omega) (Nat.le_refl _) v σ
    have hm: ∀S,MergedE p.2 q.2 S→E=pH (D++[(p.1++q.1,S)])++pH C++o.1∧BlocksE d (D++[(p.1++q.1,S)])∧BlocksE bs C:=fun S h=>⟨by rw[e0,fsts_app];simp[pH],hJ2.app (.one (merged_good hpg hqg h) (by rw[List.length_append];omega)),hC⟩
    have hsn: ∀S,uB D++S++(uB C++o.2)=uB (D++[(p.1++q.1,S)])++uB C++o.2:=fun S=>by rw[snds_app];simp[uB]
    have hz1:(a:Int)+(bs:Int)=((a+bs:Nat):Int):=by omega
    have hz2:((a+d:Nat):Int)+2*(bs:Int)=((a+d+d:Nat):Int):=by omega
    have hle:a+d≤n:=by omega
    clear hJ1 hJ3 hEl hDf e0 e2
    repeat' first|(refine zge ?_;(refine zK rfl rfl rfl (zQ rfl rfl (zX (by kernel_rfl)) (by rw[hz1];exact cc)) ?_;rintro _ _ ⟨rfl,S,hS,rfl⟩))|(refine yX ?_;intros)|(refine yV ?_ ?_<;>(intro z;cases z with|_ h)<;>intro hp)|exact nl|fail
    rw[hsn,hz2]
    refine⟨(D++[(p.1++q.1,S)],C),hm S hS,by dsimp only;simp only[List.length_cons];omega,?_⟩
    dsimp only
    rw[hnx]
    exact(St.le_of zC zJ)
  ·have hres:uB B++o.2=sortE E:=by
    refine sorted_is hE (by rw[hI1];exact(snds_perm hI2.good).append hI3.1) ?_
    match B,hI2,hEl with
    |[],_,_=>simpa [uB]using hI3.2
    |[p],hI2,hEl=>
     have ho:o.2=[]:=nil_len (by rw[hI3.1.length_eq];simp at hEl;omega)
     rw[ho];simpa [uB] using(hI2.good p (by simp)).2
    |p::q::C,hI2,hEl=>
     exfalso
     simp only[List.length_cons,Nat.add_mul,Nat.one_mul]at hEl
     omega
   rw[hres]
   clear hI1 hI2 hI3 hfl hEl hres hE
   refine yW ?_;intros
   refine zS (σ3:=rowE v (sortE E)::σ) .nil zG zJ ?_
   exact zY ⟨rfl,rfl⟩
theorem sortStable_c(E:List Ey)(hE:E.Pairwise fun x y=>x.1<y.1)(hl:E.length≤2000)(v:Value)(σ:List Ent):
  SCall prog 223 [.slv v,entF'] (rowE v E::σ) (fun r τ=>r=.tup []∧τ=rowE v (sortE E)::σ):=by
 refine zZ func223 rfl (by simp) ?_
 have cc:=stable_c E hE hl v σ
 have hlm:(E.map entC).length=E.length:=List.length_map _
 repeat' first|(refine zge ?_;(refine zK rfl rfl rfl (zQ rfl rfl (zX (by kernel_rfl)) (by first|exact cc|(rw[hlm];exact cc))) ?_;rintro _ _ ⟨rfl,rfl⟩))|(refine yX ?_;intros)|fail
 refine zS (σ3:=rowE v (sortE E)::σ) .nil zG zJ ?_
 exact zY ⟨rfl,rfl⟩
section
variable {P:Program} {ro:Option Nat} {env:Env} {σ:List Ent} {dst:Option Tmp} {ty:TypeId} {pos:String} {after:Array Edge} {guard:Option (Nat×Bool)}
theorem over_end{α:Type}{L m:List α}{lo:Nat}(h:lo+m.length=L.length):tU L lo m=L.take lo++m:=by
 unfold tU
 rw[List.drop_of_length_le (by omega),List.append_nil]
theorem g_clear{t e:TypeId}{sz bytes:Nat}{x:Operand}{v:Value}{L:List (List AV)}{lo hi:Nat}{Z:List AV}{σ1:List Ent}(ht:appOf P t=some (e,sz,bytes))(hz:zeroA P e=some Z)(hx:xP env x=some (.raw (pA sz v lo hi)))(hu:Upd σ (.row v e sz L) (.row v e sz (L.take lo++List.replicate (hi-lo) Z)) σ1)(hlo:lo≤hi)(hhi:hi=L.length)(hone:Z.all AV.one=true):
  GOp P ro ⟨dst,.call {callee:=.builtin .clear,args:=#[x],argTypes:=#[t]},ty,pos,after,guard⟩ env σ (Is (.tup []) σ1):=
 wJ (by intro c h;cases h) fun X M a w hg ho=>by
  subst hhi
  have h1:=ho x (by simp[Op.operands,Call.operands]) _ hx
  simp only[VRel]at h1
  obtain⟨hue,inf,z,hinf,hz1,hsz,hby,hzl,h0,hb0⟩:=qP ht
  obtain⟨i',zv,hi',hzv,rfl⟩:=pC hz
  rw[hinf]at hi';cases hi'
  rw[hz1]at hzv;cases hzv
  obtain⟨xs,hown,hr,hsl⟩:=hg.ent _ hu.mem
  have hl:=hown.1
  have htup:VRel M (.tup []) (.tuple #[]):=by simp only[VRel];exact⟨#[],rfl,by simp[VRels]⟩
  by_cases hc0:lo=L.length
  ·subst hc0
   rw[Nat.sub_self,List.replicate_zero,List.append_nil,List.take_length]at hu
   refine⟨M,.tuple #[],w,.tup [],σ1,Mem.le_refl M,hg.upd hu rfl rfl rfl (fun _ _ _=>rfl) (hg.ent _ hu.mem) (.inl rfl),htup,by exact .mk,.inl ?_⟩
   have hdv: ∃da dc,pA sz v L.length L.length=.slice da 0 dc:=by
    rcases hown.2 with⟨rfl,_⟩|⟨g,cap,cur,rfl,_⟩<;>exact⟨_,_,by simp only[pA,Nat.sub_self];exact rfl⟩
   obtain⟨da,dc,hdv⟩:=hdv
   rw[hdv]at h1
   have key:(Builtin.clear_ #[t] ty #[.slice da 0 dc]).run P w=.ok (.tuple #[]) w:=by
    cases da<;>simp[Builtin.clear_,run_underlying hue]
   simp only[execOp,resolve,invoke,builtin,Sem.run_bind,Sem.run_pure,Result.andThen_ok,List.map_toArray,List.map_cons,List.map_nil,h1,key]
  ·rcases hown.2 with⟨rfl,hn0⟩|⟨g,cap,cur,rfl,hbg,hgg,hnc,hcmx,hcs,htk⟩
   ·omega
   ·obtain⟨c,hc⟩: ∃c,L.length-lo=c:=⟨_,rfl⟩
    have hcap:¬ cap=lo:=by omega
    have hda:(⟨g,0,none⟩:Addr).add (lo*sz)=⟨g,lo*sz,none⟩:=by rw[Addr.add_lit];simp
    have hd1:pA sz (.slice (some ⟨g,0,none⟩) L.length cap) lo L.length=.slice (some ⟨g,lo*sz,none⟩) c (cap-lo):=by
     simp[pA,hcap,hda,hc]
    rw[hd1]at h1
    rw[hc]at hu
    obtain⟨m,hm⟩: ∃m,List.replicate c (z.cells.toList.map cA)=m:=⟨_,rfl⟩
    rw[hm]at hu
    have hmc:m.length=c:=by rw[←hm,List.length_replicate]
    have hms: ∀y∈m,y.length=sz:=fun y hy=>by rw[←hm]at hy;rw[(List.mem_replicate.1 hy).2,List.length_map,Array.length_toList,hzl]
    obtain⟨vs,hvs⟩: ∃vs,(Builtin.zeroCells z.cells c).toList=vs:=⟨_,rfl⟩
    have hvc:vs.length=c*sz:=by rw[←hvs,Array.length_toList];simp[Builtin.zeroCells,hzl]
    have hvr:VRels M m.flatten vs:=by
     have h3:=zeros_rel M (z:=z) (n:=c*z.cells.size) (fun _=>by omega)
     have e1:kR (z.cells.toList.map cA) (c*z.cells.size)=m.flatten:=by
      rw[←hm]
      apply List.ext_getElem?
      intro k
      have hzL:(z.cells.toList.map cA).length=sz:=by simp[hzl]
      by_cases hk:k<c*sz
      ·rw[uJ _ _ _ (by rw[hzL];exact hk)]
       simp only[kR,hzl,List.getElem?_map,List.getElem?_range hk,Option.map_some,hzL]
       have hlt:k%sz<(z.cells.toList.map cA).length:=by rw[hzL];exact Nat.mod_lt _ h0
       have e2: ∃q,(z.cells.toList.map cA)[k%sz]?=some q:=⟨_,List.getElem?_eq_getElem hlt⟩
       rw[List.getElem?_map]at e2
       obtain⟨q,e2⟩:=e2
       rw[e2];rfl
      ·rw[List.getElem?_eq_none (by simp[kR,hzl];omega),List.getElem?_eq_none (by simp[hzl];omega)]
     rw[←e1,←hvs];exact h3
    have hone':m.flatten.all AV.one=true:=by
     rw[List.all_eq_true]
     intro y hy
     obtain⟨q,hq,hy⟩:=List.mem_flatten.1 hy
     rw[←hm]at hq
     rw[(List.mem_replicate.1 hq).2]at hy
     exact List.all_eq_true.1 hone y hy
    have hvo:=qW hvr hone'
    have hlc:lo*sz+c*sz≤L.length*sz:=by rw[←Nat.add_mul];exact Nat.mul_le_mul_right _ (by omega)
    have hcc:L.length*sz≤cap*sz:=Nat.mul_le_mul_right _ hnc
    have hst:=run_storeCells_at P g (lo*sz) e vs 0 cur w hgg (by rw[hvc,hcs];omega) (fun u hu=>hvo u hu)
    rw[hvc]at hst
    simp only[Nat.add_zero]at hst
    have key:(Builtin.clear_ #[t] ty #[.slice (some ⟨g,lo*sz,none⟩) c (cap-lo)]).run P w=.ok (.tuple #[]) (w.setRow g (cur.toList.take (lo*sz)++vs++cur.toList.drop (lo*sz+c*sz)).toArray):=by
     obtain⟨c',rfl⟩: ∃c',c=c'+1:=⟨c-1,by omega⟩
     simp[Builtin.clear_,run_underlying hue,zeroValue,typeInfo,hinf,hz1,hvs,hst]
    have hcsz:(cur.toList.take (lo*sz)++vs++cur.toList.drop (lo*sz+c*sz)).toArray.size=cap*sz:=by
     simp only[List.size_toArray,List.length_append,List.length_take,List.length_drop,Array.length_toList,hcs]
     omega
    have hov:L.take lo++m=tU L lo m:=(over_end (by rw[hmc];omega)).symm
    rw[hov]at hu
    have hrow:(Ent.row (.slice (some ⟨g,0,none⟩) L.length cap) e sz (tU L lo m)).at M (w.setRow g (cur.toList.take (lo*sz)++vs++cur.toList.drop (lo*sz+c*sz)).toArray):=by
     refine⟨tU xs (lo*sz) vs,⟨?_,.inr ⟨g,cap,_,?_,hbg,setRow_heap w g cur _ e _ hgg,?_,hcmx,hcsz,?_⟩⟩,?_,?_⟩
     ·rw[tG (by rw[hvc,hl];exact hlc),tG (by rw[hmc];omega)];exact hl
     ·rw[tG (by rw[hmc];omega)]
     ·rw[tG (by rw[hmc];omega)];exact hnc
     ·rw[tG (by rw[hmc];omega),←htk]
      unfold tU
      rw[hvc]
      apply List.ext_getElem?
      intro j
      simp only[List.getElem?_take,List.getElem?_append,List.getElem?_drop,List.length_append,List.length_take,List.length_drop,Array.length_toList,hcs,hvc]
      have e1:min (lo*sz) (cap*sz)=lo*sz:=by omega
      have e2:min (lo*sz) (min (L.length*sz) (cap*sz))=lo*sz:=by omega
      rw[e1,e2]
      by_cases hj:j<L.length*sz
      ·rw[if_pos hj]
       by_cases hj1:j<lo*sz+c*sz
       ·rw[if_pos hj1,if_pos hj1]
        by_cases hj2:j<lo*sz
        ·rw[if_pos hj2,if_pos hj2,if_pos hj2,if_pos hj2,if_pos hj]
        ·rw[if_neg hj2,if_neg hj2]
       ·rw[if_neg hj1,if_neg hj1,if_pos (by omega)]
      ·rw[if_neg hj,if_neg (by omega),if_neg (by omega)]
     ·rw[over_flat hsl hms]
      unfold tU
      rw[qQ hms,hmc,hvc]
      exact((hr.take _).append hvr).append (hr.drop _)
     ·intro y hy
      unfold tU at hy
      rcases List.mem_append.1 hy with hy|hy
      ·rcases List.mem_append.1 hy with hy|hy
       ·exact hsl y (List.mem_of_mem_take hy)
       ·exact hms y hy
      ·exact hsl y (List.mem_of_mem_drop hy)
    refine⟨M,.tuple #[],w.setRow g (cur.toList.take (lo*sz)++vs++cur.toList.drop (lo*sz+c*sz)).toArray,.tup [],σ1,Mem.le_refl M,hg.upd hu rfl rfl rfl (fun k hk hne=>?_) hrow (.inl rfl),htup,by exact .mk,.inl ?_⟩
    ·exact setRow_other w g k _ (fun e=>hne (by simp[Ent.block,Value.ownBlock,e]))
    ·simp only[execOp,resolve,invoke,builtin,Sem.run_bind,Sem.run_pure,Result.andThen_ok,List.map_toArray,List.map_cons,List.map_nil,h1,key]
end
theorem idx_none{α:Type}{p:α→Bool}: ∀{l:List α} {k:Nat},yG p l k= -1→l.filter (fun c=>!p c)=l
 |[],_,_=>rfl
 |x::l,k,h=>by
  unfold yG at h
  cases hp:p x with
  |true=>rw[hp,if_pos rfl]at h;omega
  |false=>
   rw[hp,if_neg (by decide)]at h
   rw[List.filter_cons,hp]
   simp[idx_none h]
theorem idx_some{α:Type}{p:α→Bool}: ∀{l:List α} {k:Nat},yG p l k≠ -1→ ∃i c,yG p l k=((k+i:Nat):Int)∧l[i]?=some c∧p c=true∧(l.take i).filter (fun c=>!p c)=l.take i
 |[],_,h=>absurd rfl h
 |x::l,k,h=>by
  unfold yG at h ⊢
  cases hp:p x with
  |true=>exact⟨0,x,by simp,rfl,hp,by simp⟩
  |false=>
   rw[hp,if_neg (by decide)]at h
   obtain⟨i,c,h1,h2,h3,h4⟩:=idx_some h
   refine⟨i+1,c,?_,by simpa using h2,h3,?_⟩
   ·rw[if_neg (by decide),h1];omega
   ·rw[List.take_succ_cons,List.filter_cons,hp];simp[h4]
theorem idxRowD_c(l:List Ded)(hl:l.length≤100000)(g:FuncId)(cap:List AV)(p:Ded→Bool)(v:Value)(σ:List Ent)(he:Enters prog g)(hf: ∀c∈l,∀τ,(∀e∈σ,e∈τ)→SCall prog g ([dedV c]++cap) τ (Is (.bool (p c)) τ)):
  SCall prog 146 [.slv v,.fn (.func g) [] cap] (.row v 35 9 (l.map dedC)::σ) (Is (.int .i64 (yG p l 0)) (.row v 35 9 (l.map dedC)::σ)):=by
 refine zZ func146 rfl (by simp) ?_
 have hlm:(l.map dedC).length=l.length:=List.length_map _
 refine yW ?_;intros
 refine zU (fun(k:Nat)=>(⟨[(0,.slv v),(1,.fn (.func g) [] cap),(7,.int .i64 l.length),(8,.int .i64 k)],.row v 35 9 (l.map dedC)::σ,[],f146.ntmps⟩:St)) (fun k=>k≤l.length∧yG p l 0=yG p (l.drop k) k) (fun k=>l.length-k) 0 (⟨Nat.zero_le _,rfl⟩) (St.le_of zC yY) ?_
 intro k hI
 obtain⟨hI1,hI2⟩:=hI
 by_cases hk:k<l.length
 ·obtain⟨c,hc⟩:=zH hk
  have hgc:=tW hc
  have hd:=pU p hc
  have cf:=hf c (List.mem_of_getElem? hc) (.row v 35 9 (l.map dedC)::σ) (fun e h=>.tail _ h)
  have hkl:k<(l.map dedC).length:=by rw[hlm];exact hk
  generalize p c=b at cf hd
  clear hf hc
  cases b with
  |true=>
   rw[if_pos rfl]at hd
   rw[hI2,hd]
   clear hI2 hd
   repeat' first|(refine zB ?_;intros)|(apply qX;exact zD;rfl;rfl;(exact zQ rfl rfl he cf))|(refine yV ?_ ?_<;>(intro z;cases z with|_ h)<;>intro hp)|exact nl|fail
   refine zW .nil zG zJ ?_
   rfl
  |false=>
   rw[if_neg (by decide)]at hd
   repeat' first|(refine zB ?_;intros)|(apply qX;exact zD;rfl;rfl;(exact zQ rfl rfl he cf))|(refine xB ?_;intros)|(refine yV ?_ ?_<;>(intro z;cases z with|_ h)<;>intro hp)|exact nl|fail
   exact⟨k+1,⟨hk,by rw[hI2,hd]⟩,by omega,(St.le_of zC zJ)⟩
 ·rw[hI2,List.drop_of_length_le (by omega)]
  refine yW ?_;intros
  refine zW .nil zG zJ ?_
  rfl
theorem deleteD_c(l:List Ded)(hl:l.length≤100000)(g:FuncId)(cap:List AV)(p:Ded→Bool)(v:Value)(σ:List Ent)(he:Enters prog g)(hf: ∀c∈l,∀τ,(∀e∈σ,e∈τ)→SCall prog g ([dedV c]++cap) τ (Is (.bool (p c)) τ)):
  SCall prog 221 [.slv v,.fn (.func g) [] cap] (.row v 35 9 (l.map dedC)::σ) (fun r τ=> ∃v',r=.slv v'∧τ=.row v' 35 9 ((l.filter fun c=>!p c).map dedC)::σ):=by
 refine zZ func221 rfl (by simp) ?_
 have ci:=idxRowD_c l hl g cap p v σ he hf
 by_cases hn:yG p l 0= -1
 ·have hfl:=idx_none hn
  rw[hn]at ci
  rw[hfl]
  repeat' first|(apply yQ;exact zD;rfl;rfl;refine zL ?_;exact ci)|(refine xV ?_;and_intros<;>first|exact nl|intros)|fail
  refine zS (σ3:=.row v 35 9 (l.map dedC)::σ) .nil zG zJ ?_
  exact zY ⟨v,rfl,rfl⟩
 obtain⟨i0,c0,e0,hc0,hp0,hfl0⟩:=idx_some hn
 rw[Nat.zero_add]at e0
 rw[e0]at ci
 have hlt0:=qZ hc0
 have hne:¬ ((i0:Nat):Int)= -1:=by omega
 clear hn e0
 repeat' first|(apply yQ;exact zD;rfl;rfl;refine zL ?_;exact ci)|(refine xV ?_;and_intros<;>first|exact nl|intros)|fail
 have hs0:l.take i0++[c0]++l.drop (i0+1)=l:=by rw[List.append_assoc,List.singleton_append,←wZ hc0,List.take_append_drop]
 have hf0:(l.take (i0+1)).filter (fun c=>!p c)=l.take i0:=by
  rw[List.take_add_one,List.filter_append,hfl0,hc0];simp[hp0]
 refine zU (fun(z:(Int×Int)×Nat×List Ded×List Ded×List Ded)=>(⟨[(0,.slv v),(1,.fn (.func g) [] cap),(5,.int .i64 z.1.1),(6,.int .i64 z.1.2)],.row v 35 9 (z.2.2.2.2.map dedC)::σ,[],f221.ntmps⟩:St)) (fun z=>z.1.1=(z.2.2.1.length:Nat)∧z.1.2=(z.2.1:Nat)∧z.2.1≤l.length∧z.2.2.1++z.2.2.2.1++l.drop z.2.1=z.2.2.2.2∧z.2.2.1.length+z.2.2.2.1.length=z.2.1∧0<z.2.2.2.1.length∧(l.take z.2.1).filter (fun c=>!p c)=z.2.2.1) (fun z=>l.length-z.2.1) (((i0:Int),(i0:Int)+1),i0+1,l.take i0,[c0],l) (⟨by dsimp only;rw[List.length_take,Nat.min_eq_left (by omega)],by dsimp only;omega,hlt0,hs0,by dsimp only;rw[List.length_take,Nat.min_eq_left (by omega)];rfl,Nat.zero_lt_one,hf0⟩) (St.le_of zC yY) ?_
 intro z hI
 obtain⟨⟨i,j⟩,k,A,B,K⟩:=z
 obtain⟨hI1,hI2,hI3,hI4,hI5,hI6,hI7⟩:=hI
 dsimp only at hI1 hI2 hI3 hI4 hI5 hI6 hI7 ⊢
 subst hI1 hI2
 clear ci hc0 hp0 hfl0 hlt0 hs0 hf0 hne
 have hKl:K.length=l.length:=by rw[←hI4];simp;omega
 have hKm:(K.map dedC).length=K.length:=List.length_map _
 by_cases hk:k<l.length
 ·obtain⟨c,hc⟩:=zH hk
  have hKc:K[k]?=some c:=by
   rw[←hI4,List.getElem?_append_right (by simp;omega)]
   simp only[List.length_append,hI5,Nat.sub_self]
   rw[wZ hc];rfl
  have hgc:=tW hKc
  have cf:=fun τ (h: ∀e∈σ,e∈τ)=>hf c (List.mem_of_getElem? hc) τ h
  have hft:(l.take (k+1)).filter (fun c=>!p c)=A++if p c then []else [c]:=by
   rw[List.take_add_one,List.filter_append,hI7,hc]
   cases hp:p c<;>simp[hp]
  have hdr:=wZ hc
  rw[hdr]at hI4
  have hmk: ∀{b:Nat} {T:TypeId} {Z:List AV},∀e∈σ,e∈(.cells b Z T::.row v 35 9 (K.map dedC)::σ:List Ent):=fun e h=>.tail _ (.tail _ h)
  generalize p c=b at cf hft
  clear hf hc hdr
  cases b with
  |true=>
   rw[if_pos rfl,List.append_nil]at hft
   repeat' first|(refine zB ?_;intros)|(apply qX;exact zD;rfl;rfl;(exact zQ rfl rfl he (cf _ hmk)))|(refine xB ?_;intros)|(refine yV ?_ ?_<;>(intro z;cases z with|_ h)<;>intro hp)|exact nl|fail
   refine⟨(((A.length:Nat),(k:Int)+1),k+1,A,B++[c],K),⟨rfl,by dsimp only;omega,hk,by dsimp only;rw[←hI4];simp,by simp only[List.length_append,List.length_singleton];omega,by simp only[List.length_append,List.length_singleton];omega,hft⟩,by dsimp only;omega,?_⟩
   dsimp only
   exact(St.le_of zC zJ)
  |false=>
   rw[if_neg (by decide)]at hft
   obtain⟨b1,B1,rfl⟩: ∃b1 B1,B=b1::B1:=by
    cases B with
    |nil=>simp at hI6
    |cons b1 B1=>exact⟨b1,B1,rfl⟩
   have hI8:(A++[c]).length+(B1++[c]).length=k+1:=by
    simp only[List.length_cons]at hI5
    simp only[List.length_append,List.length_singleton]
    omega
   have hset:(K.map dedC).set A.length (dedC c)=(((A++[c])++(B1++[c])++l.drop (k+1)).map dedC):=by
    rw[←hI4];simp[List.map_set]
   have hAl:A.length<K.length:=by rw[hKl];simp only[List.length_cons]at hI5;omega
   repeat' first|(refine zge ?_;(apply yE;rfl;rfl;focus (apply vB;rfl;rfl;rfl;rfl;rfl;rfl;rotate_left;exact qJ;(first|assumption|omega|(simp only[List.length_map];omega)|(simp only[List.length_set,List.length_map];omega)))))|(refine zB ?_;intros)|(apply qX;exact zD;rfl;rfl;(exact zQ rfl rfl he (cf _ hmk)))|(refine xB ?_;intros)|(refine yV ?_ ?_<;>(intro z;cases z with|_ h)<;>intro hp)|exact nl|fail
   refine⟨(((A.length:Int)+1,(k:Int)+1),k+1,A++[c],B1++[c],(A++[c])++(B1++[c])++l.drop (k+1)),⟨by dsimp only;simp,by dsimp only;omega,hk,rfl,by dsimp only;exact hI8,by dsimp only;simp,hft⟩,by dsimp only;omega,?_⟩
   dsimp only
   rw[←hset]
   exact(St.le_of zC zJ)
 ·obtain rfl:k=l.length:=by omega
  rw[List.take_length]at hI7
  rw[List.drop_length,List.append_nil]at hI4
  rw[hI7]
  have hAl:A.length≤K.length:=by rw[←hI4];simp
  have hKA: ∀Z:List (List AV),(((K.map dedC).take A.length++Z).take A.length)=A.map dedC:=fun Z=>by
   have h1:((K.map dedC).take A.length).length=A.length:=by rw[List.length_take,hKm];omega
   rw[List.take_left' h1,←hI4,List.map_append,List.take_left' (List.length_map _)]
  clear hf hI7
  refine yW ?_;intros
  refine yE rfl rfl (g_clear rfl rfl rfl Upd.here (by omega) rfl rfl) ?_
  repeat' first|(refine zge ?_;(refine zK rfl rfl rfl (g_cutRow (k:=A.length) rfl rfl (fun v'=>Upd.here) rfl rfl (by rw[List.length_append,List.length_take,List.length_replicate,hKm];omega)) ?_;rintro _ _ ⟨v'⟩))|(refine yX ?_;intros)|fail
  rw[hKA]
  refine zS (σ3:=.row v' 35 9 (A.map dedC)::σ) .nil zG zJ ?_
  exact zY ⟨v',rfl,rfl⟩
end Go.Proofs.YtaoaafdommlhcaaGreat
