/- Parts of the proof that belong together: Ch Da Db Dc Dd De. -/
import Derived.Test.YtaoaafdommlhcaaGreatHA07
import Derived.Test.YtaoaafdommlhcaaGreatHA12
import Derived.Test.YtaoaafdommlhcaaGreatHA13
import Derived.Test.YtaoaafdommlhcaaGreatHA16
set_option maxRecDepth 10000
set_option maxHeartbeats 8000000
set_option linter.unusedSimpArgs false
set_option linter.unusedVariables false
set_option autoImplicit false
open Go.Proofs.Tryz
namespace Go.Proofs.YtaoaafdommlhcaaGreat
theorem rev_step{α:Type}{A M C:List α}{x y:α}:((A++x::M++y::C).set A.length y).set (A.length+1+M.length) x=(A++[y])++M++(x::C):=by
 have e1:(A++x::M++y::C).set A.length y=A++y::M++y::C:=by simp
 rw[e1]
 have e2:A++y::M++y::C=(A++y::M)++y::C:=rfl
 rw[e2,show A.length+1+M.length=(A++y::M).length by simp;omega]
 simp
theorem mid_split{α:Type}{M:List α}(h:2≤M.length): ∃x M' y,M=x::M'++[y]:=by
 cases M with
 |nil=>simp at h
 |cons x M=>
  have hM:M≠[]:=by rintro rfl;simp at h
  exact⟨x,M.dropLast,M.getLast hM,by rw[List.cons_append,List.dropLast_concat_getLast]⟩
theorem reverse_c(L:List Int)(hl:L.length≤100000)(v:Value)(σ:List Ent):
  SCall prog 111 [.slv v] (.row v 3 1 (L.map intC)::σ) (fun r τ=>r=.tup []∧τ=.row v 3 1 (L.reverse.map intC)::σ):=by
 refine zZ func111 rfl (by simp) ?_
 obtain⟨n,hn⟩: ∃n,L.length=n:=⟨_,rfl⟩
 have hlm:(L.map intC).length=n:=by rw[List.length_map,hn]
 refine uZ ?_;and_intros<;>first|exact nl|intros
 refine zU (fun(z:(Int×List Int)×List Int×List Int×List Int)=>(⟨[(0,.slv v),(2,.int .i64 (z.2.1.length:Nat)),(3,.int .i64 z.1.1)],.row v 3 1 (z.1.2.map intC)::σ,[],f111.ntmps⟩:St)) (fun z=>z.2.1++z.2.2.1++z.2.2.2=z.1.2∧z.1.2.length=n∧z.2.1++z.2.2.1.reverse++z.2.2.2=L.reverse∧z.1.1=(z.2.1.length:Int)+(z.2.2.1.length:Int)-1) (fun z=>z.2.2.1.length) (((L.length:Nat)-1,L),[],L,[]) (⟨by simp,hn,by simp,by simp⟩) (St.le_of zC yY) ?_
 intro z hI
 obtain⟨⟨j,K⟩,A,M,C⟩:=z
 obtain⟨hK,hI1,hI2,hj⟩:=hI
 dsimp only at hK hI1 hI2 hj ⊢
 clear hlm
 by_cases hM:2≤M.length
 ·obtain⟨x,M',y,rfl⟩:=mid_split hM
  have hst:=rev_step (A:=A) (M:=M') (C:=C) (x:=x) (y:=y)
  have hK2:A++x::M'++y::C=K:=by rw[←hK];simp
  rw[hK2]at hst
  have hx:K[A.length]?=some x:=by rw[←hK2];simp
  have hy:K[A.length+1+M'.length]?=some y:=by
   rw[←hK2,List.getElem?_append_right (by simp;omega)]
   simp[show A.length+1+M'.length-(A.length+(M'.length+1))=0 by omega]
  have hgx:=wU hx
  have hgy:=wU hy
  have hw:((K.map intC).set A.length (intC y)).set (A.length+1+M'.length) (intC x)=((A++[y])++M'++(x::C)).map intC:=by
   rw[←hst];simp[List.map_set]
  have hI3:(A++[y])++M'.reverse++(x::C)=L.reverse:=by rw[←hI2];simp
  have hI4:((A++[y])++M'++(x::C)).length=n:=by rw[←hI1,←hK2];simp
  have hlM:(x::M'++[y]).length=M'.length+2:=by simp
  have hz1:j=((A.length+1+M'.length:Nat):Int):=by rw[hj,hlM];omega
  have hlm:(K.map intC).length=n:=by rw[List.length_map,hI1]
  have hnl:n≤100000:=by omega
  have hlt:A.length+1+M'.length<n:=by rw[←hI1];exact qZ hy
  have hnn:((A++[y]).length:Int)=(A.length:Int)+1:=by simp
  subst hz1
  clear hst hK hK2 hI2 hn hj
  refine ex_rowV (L:=K.map intC) (.head _) (fun e=>by rw[List.map_eq_nil_iff]at e;subst e;cases hx) ?_
  rintro g cap rfl
  rw[hlm]
  refine yW ?_;intros
  refine yB (fun _=>False) [7,11,13] 14 rfl (by kernel_rfl) rfl ?_
  simp only[List.take_succ_cons,List.take_zero,List.drop_succ_cons,List.drop_zero]
  repeat' first|(refine zgd ?_;first|(apply xH;rfl;rfl;(apply g_load1;rfl;rfl;(exact .k0 yP (by assumption) rfl)))|(apply drs_do;rfl;rfl;(focus (apply vB;rfl;rfl;rfl;rfl;rfl;rfl;rotate_left;exact qJ;(first|assumption|omega|(simp only[List.length_map];omega))));exact zks))|(refine zge ?_;(apply yE;rfl;rfl;focus (apply vB;rfl;rfl;rfl;rfl;rfl;rfl;rotate_left;exact qJ;(first|assumption|omega|(simp only[List.length_map];omega)|(simp only[List.length_set,List.length_map];omega)))))|(refine zB ?_;intros)|(apply zvI;exact zD;rfl;intro σ' hl;(apply g_indexRaw;rfl;rfl;rfl;(first|assumption|rfl);(first|assumption|omega)))|(refine xB ?_;intros)|refine vX rfl rfl rfl ?_ ?_|fail
  all_goals
   refine⟨((((A.length+1+M'.length:Nat):Int)-1,(A++[y])++M'++(x::C)),A++[y],M',x::C),⟨rfl,hI4,hI3,by dsimp only;rw[hnn];omega⟩,by dsimp only;omega,?_⟩
   dsimp only
   rw[←hw,hnn]
   exact(St.le_of zC zJ)
 ·have hMr:M.reverse=M:=by
   match M,hM with
   |[],_=>rfl
   |[_],_=>rfl
   |_::_::_,h=>simp at h
  rw[hMr,hK]at hI2
  subst hI2
  have hz:¬ (A.length:Int)<j:=by omega
  refine uZ ?_;and_intros<;>first|exact nl|intros
  refine zS (σ3:=.row v 3 1 (L.reverse.map intC)::σ) .nil zG zJ ?_
  exact zY ⟨rfl,rfl⟩
def pathL(d:Dis)(i:Int):List Int:=(upL d.R 64 i).reverse
theorem zP{d:Dis}(h:yZ d=0):fewB d=true∧yD d=true:=by
 unfold yZ at h
 cases hf:fewB d with
 |false=>rw[hf]at h;simp at h
 |true=>
  rw[hf]at h
  cases hv:yD d with
  |false=>rw[hv]at h;simp at h
  |true=>exact⟨rfl,rfl⟩
theorem yC{d:Dis}(h:fewB d=true):d.R.length≤64∧d.F.length≤600∧d.C.length≤32∧d.G.length≤256∧d.D.length≤256:=by
 unfold fewB at h
 simp only[Bool.and_eq_true,decide_eq_true_eq]at h
 omega
theorem path_c(d:Dis)(r:Nat)(hd:yZ d=0)(hr:r<d.R.length)(σ:List Ent):SCall prog 54 [disV d,.int .i64 (r:Int)] σ (Is (.tup [ints (pathL d r),.int .i64 0]) σ):=by
 refine zZ func54 rfl (by simp) ?_
 have c1:=canCheck_c d r hd hr
 obtain⟨hf,hv⟩:=zP hd
 have c2:=fun τ=>up_c d r τ
 have c3:=fun pd q τ=>collectUp_c d hv (yC hf).1 r hr pd q τ
 have hlen:(upL d.R 64 r).length≤100000:=by have:=upL_len d.R 64 r;omega
 have c4:=fun v τ=>reverse_c (upL d.R 64 r) hlen v τ
 unfold pathL
 generalize upL d.R 64 r=L at c3 c4 ⊢
 clear hd hf hv hlen
 repeat' first|(refine zge ?_;first|(refine zK rfl rfl rfl (zQ rfl rfl (zX (by kernel_rfl)) (c2 _)) ?_;rintro _ _ ⟨pd,q,rfl,rfl⟩)|(refine zK rfl rfl rfl (zQ rfl rfl (zX (by kernel_rfl)) (c3 pd q _)) ?_;rintro _ _ ⟨v,rfl,rfl⟩)|(refine zK rfl rfl rfl (zQ rfl rfl (zX (by kernel_rfl)) (c4 v _)) ?_;rintro _ _ ⟨rfl,rfl⟩))|(refine zB ?_;intros)|(apply qX;exact zD;rfl;rfl;exact zlt)|(refine xB ?_;intros)|(apply yQ;exact zD;rfl;rfl;refine zL ?_;exact c1 _)|(refine yV ?_ ?_<;>(intro z;cases z with|_ h)<;>intro hp)|exact nl|fail
 refine zS (σ3:=.row v 3 1 (L.reverse.map intC)::σ) .nil zG zJ ?_
 exact xS .here (.tup (.here (.same .nil)) .nil) (zY .mk)
theorem drop_get{α:Type}{l:List α}{k:Nat}{c:α}(h:l[k]?=some c):l.drop k=c::l.drop (k+1):=by
 obtain⟨h1,h2⟩:=List.getElem?_eq_some_iff.1 h
 rw[List.drop_eq_getElem_cons h1,h2]
def yG{α:Type}(p:α→Bool):List α→Nat→Int
 |[],_=> -1
 |x::r,k=>if p x then (k:Int)else yG p r (k+1)
theorem pU{α:Type}(p:α→Bool){l:List α}{k:Nat}{c:α}(h:l[k]?=some c):yG p (l.drop k) k=if p c then (k:Int)else yG p (l.drop (k+1)) (k+1):=by
 rw[drop_get h];rfl
theorem idxFrom_any{α:Type}(p:α→Bool): ∀(l:List α) (k:Nat),decide (0≤yG p l k)=l.any p
 |[],k=>rfl
 |x::r,k=>by
  by_cases hx:p x=true
  ·have h1:yG p (x::r) k=(k:Int):=if_pos hx
   rw[h1];simp[hx]
  ·have h1:yG p (x::r) k=yG p r (k+1):=if_neg hx
   rw[h1,idxFrom_any p r (k+1)];simp[hx]
structure Prt where
 farm:Int
 share:Rt2
 deriving DecidableEq
structure Ded where
 no:Int
 kind:Int
 right:Int
 frm:Int
 to:Int
 parts:List Prt
 of:Int
 at_:Int
 known:Int
 deriving DecidableEq
def inB(n lo hi:Int):Bool:=decide (lo≤n)&&decide (n≤hi)
def bareB(x:Ded):Bool:=
 if x.kind=1 then decide ((x.parts.length:Int)=0)&&decide (x.of=0)
 else if x.kind=2 then decide (x.to=0)&&decide (x.of=0)
 else if x.kind=3 then decide (x.to=0)&&decide ((x.parts.length:Int)=0)&&decide (x.of=0)
 else decide (x.right=0)&&decide (x.frm=0)&&decide (x.to=0)&&decide ((x.parts.length:Int)=0)&&(decide (x.kind=4)||decide (x.of=0))
def pZ(d:Dis)(x:Ded):Bool:=inB x.right 0 (d.G.length-1)&&(match d.G[x.right.toNat]? with|some g=>decide (g.kind=1)|none=>false)&&inB x.frm 0 (d.F.length-1)
section
variable (add:Rt2→Rt2→Rt2×Int)
def qS(F:Nat):List Prt→(Int→Bool)→Rt2→Option Rt2
 |[],_,s=>some s
 |p::l,seen,s=>if inB p.farm 0 (F-1)=false∨seen p.farm=true∨p.share.n≤0 then none
  else if (add s p.share).2≠0 then none else qS F l (fun q=>seen q||q==p.farm) (add s p.share).1
def kQ(d:Dis)(l:List Prt):Bool:=match qS add d.F.length l (fun _=>false) ⟨0,1⟩ with
 |some s=>inB l.length 1 16&&decide (s=⟨1,1⟩)
 |none=>false
def fitsB(d:Dis)(E:Int→Option Ded)(x:Ded):Bool:=
 inB x.no 0 1048576&&inB x.at_ 0 4096&&inB x.known 0 1048576&&bareB x&&
 (if x.kind=1 then pZ d x&&inB x.to 0 (d.F.length-1)&&decide (x.to≠x.frm)
 else if x.kind=2 then pZ d x&&kQ add d x.parts
 else if x.kind=3 then pZ d x
 else if x.kind=4 then match E x.of with
  |some y=>decide (y.kind≠4)&&decide (y.known≤x.known)
  |none=>false
 else false)
def putE(E:Int→Option Ded)(x:Ded):Int→Option Ded:=fun q=>if q=x.no then some x else E q
def jW(d:Dis):Option Int→(Int→Option Ded)→List Ded→Bool
 |_,_,[]=>true
 |last,E,x::l=>(match last with|some n=>decide (n<x.no)|none=>true)&&fitsB add d E x&&jW d (some x.no) (putE E x) l
def tooL(l:List Ded):Bool:=decide ((512:Int)<l.length)||l.any fun x=>decide ((16:Int)<x.parts.length)
def wF(d:Dis)(l:List Ded):Int:=if yZ d≠0 then yZ d else if tooL l then 2 else if jW add d none (fun _=>none) l then 0 else 250
end
abbrev prtC(x:Prt):List AV:=[.int .i64 x.farm,.int .i64 x.share.n,.int .i64 x.share.d]
abbrev prts(l:List Prt):AV:=.dl 3 (l.map prtC)
abbrev dedC(x:Ded):List AV:=[.int .i64 x.no,.int .i64 x.kind,.int .i64 x.right,.int .i64 x.frm,.int .i64 x.to,prts x.parts,.int .i64 x.of,.int .i64 x.at_,.int .i64 x.known]
abbrev dedV(x:Ded):AV:=.agg (dedC x)
abbrev deds(l:List Ded):AV:=.dl 9 (l.map dedC)
theorem prt_get{l:List Prt}{k:Nat}{x:Prt}(h:l[k]?=some x):(l.map prtC)[k]?=some (prtC x):=by rw[List.getElem?_map,h];rfl
theorem tW{l:List Ded}{k:Nat}{x:Ded}(h:l[k]?=some x):(l.map dedC)[k]?=some (dedC x):=by rw[List.getElem?_map,h];rfl
theorem rin_c(n lo hi:Int)(σ:List Ent):SCall prog 147 [.int .i64 n,.int .i64 lo,.int .i64 hi] σ (Is (.bool (inB n lo hi)) σ):=by
 refine zZ func147 rfl (by simp) ?_
 unfold inB
 refine uZ ?_;and_intros<;>first|exact nl|intros
 all_goals
  refine zW .nil zG yY (zN ?_)
  simp[*]
theorem bare_c(x:Ded)(σ:List Ent):SCall prog 148 [dedV x] σ (Is (.bool (bareB x)) σ):=by
 refine zZ func148 rfl (by simp) ?_
 unfold bareB
 by_cases h1:x.kind=1
 ·rw[if_pos h1]
  repeat' first|(refine zB ?_;intros)|(refine xB ?_;intros)|(refine yV ?_ ?_<;>(intro z;cases z with|_ h)<;>intro hp)|exact nl|cases ‹BV _ _›|fail
  all_goals
   refine zW .nil zG yY (zN ?_)
   first|rfl|(rw[Bool.eq_iff_iff];simp only[Bool.and_eq_true,Bool.or_eq_true,decide_eq_true_eq,beq_iff_eq,Bool.false_eq_true,false_iff,true_iff,iff_false,iff_true];omega)
 rw[if_neg h1]
 by_cases h2:x.kind=2
 ·rw[if_pos h2]
  repeat' first|(refine zB ?_;intros)|(refine xB ?_;intros)|(refine yV ?_ ?_<;>(intro z;cases z with|_ h)<;>intro hp)|exact nl|cases ‹BV _ _›|fail
  all_goals
   refine zW .nil zG yY (zN ?_)
   first|rfl|(rw[Bool.eq_iff_iff];simp only[Bool.and_eq_true,Bool.or_eq_true,decide_eq_true_eq,beq_iff_eq,Bool.false_eq_true,false_iff,true_iff,iff_false,iff_true];omega)
 rw[if_neg h2]
 by_cases h3:x.kind=3
 ·rw[if_pos h3]
  refine uZ ?_;and_intros<;>first|exact nl|intros
  all_goals
   refine zW .nil zG yY (zN ?_)
   first|rfl|(rw[Bool.eq_iff_iff];simp only[Bool.and_eq_true,Bool.or_eq_true,decide_eq_true_eq,beq_iff_eq,Bool.false_eq_true,false_iff,true_iff,iff_false,iff_true];omega)
 rw[if_neg h3]
 by_cases h4:x.kind=4
 ·refine uZ ?_;and_intros<;>first|exact nl|intros
  all_goals
   refine zW .nil zG yY (zN ?_)
   first|rfl|(rw[Bool.eq_iff_iff];simp only[Bool.and_eq_true,Bool.or_eq_true,decide_eq_true_eq,beq_iff_eq,Bool.false_eq_true,false_iff,true_iff,iff_false,iff_true];omega)
 ·refine uZ ?_;and_intros<;>first|exact nl|intros
  all_goals
   refine zW .nil zG yY (zN ?_)
   first|rfl|(rw[Bool.eq_iff_iff];simp only[Bool.and_eq_true,Bool.or_eq_true,decide_eq_true_eq,beq_iff_eq,Bool.false_eq_true,false_iff,true_iff,iff_false,iff_true];omega)
theorem whole_c(d:Dis)(hF:d.F.length≤600)(l:List Prt)(σ:List Ent):SCall prog 149 [disV d,prts l] σ (Is (.bool (kQ xL d l)) σ):=by
 refine zZ func149 rfl (by simp) ?_
 obtain⟨V,hV⟩: ∃V,qS xL d.F.length l (fun _=>false) ⟨0,1⟩=V:=⟨_,rfl⟩
 unfold kQ
 rw[hV]
 have cin:=fun n hi σ=>rin_c n 0 hi σ
 refine yW ?_;intros
 rename Nat=>bs;revert bs;rename Nat=>bm;revert bm;rename Nat=>bd;revert bd
 intro bd bm bs
 refine jY (t:=13) rfl (by first|exact(List.length_map _).symm|rfl) (fun hlen=>?_)
 refine zU (fun(z:Nat×(Int→Bool)×Rt2×Nat)=>(⟨[(1,prts l),(2,.ptr bd 0),(5,.ptr bs 0),(6,.mp bm),(13,prts l),(14,.int .i64 l.length),(15,.int .i64 (z.1:Nat))],.cells bs (rtC z.2.2.1) 105::.imap bm (boolM z.2.1) z.2.2.2::.cells bd (disC d) 31::σ,[],f149.ntmps⟩:St)) (fun z=>z.1≤l.length∧qS xL d.F.length (l.drop z.1) z.2.1 z.2.2.1=V) (fun z=>l.length-z.1) (0,fun _=>false,⟨0,1⟩,0) (⟨Nat.zero_le _,hV⟩) (St.le_of zC yY) ?_
 intro z hI
 obtain⟨k,seen,s,n⟩:=z
 obtain⟨hI1,hI2⟩:=hI
 dsimp only at hI1 hI2 ⊢
 clear hV
 by_cases hk:k<l.length
 ·obtain⟨x,hx⟩:=zH hk
  have gx:=prt_get hx
  rw[wZ hx]at hI2
  unfold qS at hI2
  have ca:=fun τ=>addR_c s x.share τ
  generalize xL s x.share=A at ca hI2
  obtain⟨r,e⟩:=A
  dsimp only at ca hI2
  have c1:=fun τ=>cin x.farm ((d.F.length:Int)-1) τ
  generalize inB x.farm 0 (↑d.F.length-1)=b1 at c1 hI2
  generalize hb2:seen x.farm=b2 at hI2
  clear hx
  by_cases hbad:b1=false∨b2=true∨x.share.n≤0
  ·rw[if_pos hbad]at hI2
   subst hI2
   have key: ∀(h:x.share.n≤0→b1=true→b2=false→False),True:=fun _=>trivial
   rcases Bool.eq_false_or_eq_true b1 with rfl|rfl
   ·rcases Bool.eq_false_or_eq_true b2 with rfl|rfl
    ·repeat' first|(apply yQ;exact zD;rfl;rfl;refine zL ?_;exact c1 _)|(refine xV ?_;and_intros<;>first|exact nl|intros)|cases ‹BV _ _›|exact wG|fail
     all_goals (try (first|exact absurd (hb2.symm.trans (by assumption:seen x.farm=false)) (by decide)|exact absurd (hb2.symm.trans (by assumption:seen x.farm=true)) (by decide)))
     all_goals
      refine zW .nil zG zJ ?_
      rfl
    ·have h3:x.share.n≤0:=by simpa using hbad
     repeat' first|(apply yQ;exact zD;rfl;rfl;refine zL ?_;exact c1 _)|(refine xV ?_;and_intros<;>first|exact nl|intros)|cases ‹BV _ _›|exact wG|fail
     all_goals (try (first|exact absurd (hb2.symm.trans (by assumption:seen x.farm=false)) (by decide)|exact absurd (hb2.symm.trans (by assumption:seen x.farm=true)) (by decide)))
     all_goals
      refine zW .nil zG zJ ?_
      rfl
   ·repeat' first|(apply yQ;exact zD;rfl;rfl;refine zL ?_;exact c1 _)|(refine xV ?_;and_intros<;>first|exact nl|intros)|cases ‹BV _ _›|exact wG|fail
    refine zW .nil zG zJ ?_
    rfl
  ·rw[if_neg hbad]at hI2
   obtain⟨rfl,rfl,h3⟩:b1=true∧b2=false∧¬ x.share.n≤0:=by
    refine⟨?_,?_,fun h=>hbad (.inr (.inr h))⟩
    ·cases b1 with
     |true=>rfl
     |false=>exact absurd (.inl rfl) hbad
    ·cases b2 with
     |false=>rfl
     |true=>exact absurd (.inr (.inl rfl)) hbad
   clear hbad
   by_cases he:e=0
   ·rw[if_neg (by simpa using he)]at hI2
    subst he
    repeat' first|(apply yQ;exact zD;rfl;rfl;refine zL ?_;first|exact c1 _|exact ca _)|(refine xV ?_;and_intros<;>first|exact nl|intros)|cases ‹BV _ _›|exact wG|fail
    all_goals (try (first|exact absurd (hb2.symm.trans (by assumption:seen x.farm=false)) (by decide)|exact absurd (hb2.symm.trans (by assumption:seen x.farm=true)) (by decide)))
    exact⟨(k+1,fun q=>seen q||q==x.farm,r,_),⟨hk,hI2⟩,by dsimp only;omega,(St.le_of zC zJ)⟩
   ·rw[if_pos (by simpa using he)]at hI2
    subst hI2
    repeat' first|(apply yQ;exact zD;rfl;rfl;refine zL ?_;first|exact c1 _|exact ca _)|(refine xV ?_;and_intros<;>first|exact nl|intros)|cases ‹BV _ _›|exact wG|fail
    all_goals (try (first|exact absurd (hb2.symm.trans (by assumption:seen x.farm=false)) (by decide)|exact absurd (hb2.symm.trans (by assumption:seen x.farm=true)) (by decide)))
    refine zW .nil zG zJ ?_
    rfl
 ·obtain rfl:k=l.length:=by omega
  rw[List.drop_length]at hI2
  simp only[qS]at hI2
  subst hI2
  have c1:=fun τ=>rin_c (l.length:Int) 1 16 τ
  dsimp only
  generalize inB (l.length:Int) 1 16=b1 at c1 ⊢
  have hs:decide (s=(⟨1,1⟩:Rt2))=(decide (s.n=1)&&decide (s.d=1)):=by
   rw[←Bool.decide_and,decide_eq_decide]
   constructor
   ·rintro rfl;exact⟨rfl,rfl⟩
   ·intro h;cases s;simp at h;simp[h]
  rw[hs]
  clear hs
  cases b1 with
  |false=>
   repeat' first|(apply yQ;exact zD;rfl;rfl;refine zL ?_;exact c1 _)|(refine xV ?_;and_intros<;>first|exact nl|intros)|fail
   refine zW .nil zG zJ ?_
   rfl
  |true=>
   repeat' first|(refine zB ?_;intros)|(apply yQ;exact zD;rfl;rfl;refine zL ?_;exact c1 _)|(refine yV ?_ ?_<;>(intro z;cases z with|_ h)<;>intro hp)|exact nl|cases ‹BV _ _›|fail
   all_goals
    refine zW .nil zG yY (zN ?_)
    first|rfl|(simp[*];done)|(rw[Bool.eq_iff_iff];simp;done)
def dedM(E:Int→Option Ded):Int→Option AV:=fun q=>(E q).map fun y=>dedV y
theorem dedM_upd(E:Int→Option Ded)(x:Ded):updA (dedM E) x.no (dedV x)=dedM (putE E x):=by
 funext q
 unfold updA dedM putE
 by_cases h:q=x.no
 ·subst h;simp
 ·simp[h]
theorem dedM_some{E:Int→Option Ded}{k:Int}{y:Ded}(h:E k=some y)(z:AV):(dedM E k).getD z=dedV y:=by unfold dedM;rw[h];rfl
theorem dedM_no{E:Int→Option Ded}{k:Int}(h:E k=none)(z:AV):(dedM E k).getD z=z:=by unfold dedM;rw[h];rfl
theorem dedM_ok{E:Int→Option Ded}{k:Int}{y:Ded}(h:E k=some y):(dedM E k).isSome=true:=by unfold dedM;rw[h];rfl
theorem dedM_bad{E:Int→Option Ded}{k:Int}(h:E k=none):(dedM E k).isSome=false:=by unfold dedM;rw[h];rfl
theorem fits_c(d:Dis)(hF:d.F.length≤600)(hG:d.G.length≤256)(E:Int→Option Ded)(x:Ded){b n:Nat}{σ:List Ent}(hm:Ent.imap b (dedM E) n∈σ):SCall prog 95 [disV d,.mp b,dedV x] σ (Is (.bool (fitsB xL d E x)) σ):=by
 refine zZ func95 rfl (by simp) ?_
 unfold fitsB
 have c1:=fun τ=>rin_c x.no 0 1048576 τ
 have c2:=fun τ=>rin_c x.at_ 0 4096 τ
 have c3:=fun τ=>rin_c x.known 0 1048576 τ
 have c4:=fun τ=>bare_c x τ
 generalize inB x.no 0 1048576=b1 at c1 ⊢
 generalize inB x.at_ 0 4096=b2 at c2 ⊢
 generalize inB x.known 0 1048576=b3 at c3 ⊢
 generalize bareB x=b4 at c4 ⊢
 cases b1 with
 |false=>
  repeat' first|(apply yQ;exact zD;rfl;rfl;refine zL ?_;exact c1 _)|(refine xV ?_;and_intros<;>first|exact nl|intros)|cases ‹BV _ _›|exact wG|fail
  refine zW .nil zG zJ ?_
  rfl
 |true=>
 cases b2 with
 |false=>
  repeat' first|(apply yQ;exact zD;rfl;rfl;refine zL ?_;first|exact c1 _|exact c2 _)|(refine xV ?_;and_intros<;>first|exact nl|intros)|cases ‹BV _ _›|exact wG|fail
  refine zW .nil zG zJ ?_
  rfl
 |true=>
 cases b3 with
 |false=>
  repeat' first|(apply yQ;exact zD;rfl;rfl;refine zL ?_;first|exact c1 _|exact c2 _|exact c3 _)|(refine xV ?_;and_intros<;>first|exact nl|intros)|cases ‹BV _ _›|exact wG|fail
  refine zW .nil zG zJ ?_
  rfl
 |true=>
 cases b4 with
 |false=>
  repeat' first|(apply yQ;exact zD;rfl;rfl;refine zL ?_;first|exact c1 _|exact c2 _|exact c3 _|exact c4 _)|(refine xV ?_;and_intros<;>first|exact nl|intros)|cases ‹BV _ _›|exact wG|fail
  refine zW .nil zG zJ ?_
  rfl
 |true=>
 simp only[Bool.true_and,Bool.and_true]
 have c5:=fun τ=>rin_c x.right 0 ((d.G.length:Int)-1) τ
 have c6:=fun τ=>rin_c x.frm 0 ((d.F.length:Int)-1) τ
 have c7:=fun τ=>rin_c x.to 0 ((d.F.length:Int)-1) τ
 have c8:=fun τ=>whole_c d hF x.parts τ
 generalize kQ xL d x.parts=b8 at c8 ⊢
 generalize inB x.to 0 (↑d.F.length-1)=b7 at c7 ⊢
 repeat' first|(show EX _ _ (Code.seq (Code.region 4 _ _) _) _ _;refine Stuck.out ?_)|(refine vW ?_;intros)|(apply yQ;exact zD;rfl;rfl;refine zL ?_;first|exact c1 _|exact c2 _|exact c3 _|exact c4 _)|(refine yV ?_ ?_<;>(intro z;cases z with|_ h)<;>intro hp)|cases ‹BV _ _›|exact wG|fail
 all_goals try refine Stuck.mk ?_
 rename Nat=>bx;revert bx;rename Nat=>bd;revert bd
 intro bd bx
 refine ex_join (fun(_:Unit)=>⟨[(1,.mp b),(3,.ptr bd 0),(5,.ptr bx 0),(7,.int .i64 (d.F.length:Nat)),(8,.bool (pZ d x))],.cells bx (dedC x) 35::.cells bd (disC d) 31::σ,[],f95.ntmps⟩) ?_ (fun _=>?_)
 ·cases h5:inB x.right 0 (↑d.G.length-1) with
  |false=>
   have hH:pZ d x=false:=by unfold pZ;rw[h5];rfl
   rw[hH]
   rw[h5]at c5
   clear h5
   repeat' first|(apply yQ;exact zD;rfl;rfl;refine zL ?_;exact c5 _)|(refine xV ?_;and_intros<;>first|exact nl|intros)|fail
   exact⟨(),(St.le_of zC zJ)⟩
  |true=>
   rw[h5]at c5
   have hr: ∃k:Nat,x.right=k∧k<d.G.length:=by
    unfold inB at h5
    simp only[Bool.and_eq_true,decide_eq_true_eq]at h5
    exact⟨x.right.toNat,by omega,by omega⟩
   obtain⟨k,hk,hlt⟩:=hr
   obtain⟨g,hg⟩:=zH hlt
   have gg:(d.G.map rgtC)[k]?=some (rgtC g):=by rw[List.getElem?_map,hg];rfl
   have hH:pZ d x=(decide (g.kind=1)&&inB x.frm 0 (↑d.F.length-1)):=by unfold pZ;rw[h5,hk,Int.toNat_natCast,hg];rfl
   rw[hH]
   generalize inB x.frm 0 (↑d.F.length-1)=b6 at c6 ⊢
   clear h5 hg
   by_cases hq:g.kind=1
   ·rw[decide_eq_true hq]
    repeat' first|(apply yQ;exact zD;rfl;rfl;refine zL ?_;first|exact c5 _|exact c6 _)|(refine xV ?_;and_intros<;>first|exact nl|intros)|cases ‹BV _ _›|fail
    exact⟨(),(St.le_of zC zJ)⟩
   ·rw[decide_eq_false hq]
    repeat' first|(apply yQ;exact zD;rfl;rfl;refine zL ?_;exact c5 _)|(refine xV ?_;and_intros<;>first|exact nl|intros)|fail
    exact⟨(),(St.le_of zC zJ)⟩
 generalize pZ d x=H
 clear c1 c2 c3 c4 c5 c6
 by_cases k1:x.kind=1
 ·rw[if_pos k1]
  cases H with
  |false=>
   refine yW ?_;intros
   refine zW .nil zG zJ ?_
   rfl
  |true=>
   repeat' first|(apply yQ;exact zD;rfl;rfl;refine zL ?_;exact c7 _)|(refine xV ?_;and_intros<;>first|exact nl|intros)|cases ‹BV _ _›|fail
   all_goals
    refine zW .nil zG yY (zN ?_)
    first|rfl|(rw[Bool.eq_iff_iff];simp[*];done)
 rw[if_neg k1]
 by_cases k2:x.kind=2
 ·rw[if_pos k2]
  cases H with
  |false=>
   refine yW ?_;intros
   refine zW .nil zG zJ ?_
   rfl
  |true=>
   repeat' first|(apply yQ;exact zD;rfl;rfl;refine zL ?_;exact c8 _)|(refine xV ?_;and_intros<;>first|exact nl|intros)|cases ‹BV _ _›|fail
   refine zW .nil zG yY (zN ?_)
   rfl
 rw[if_neg k2]
 by_cases k3:x.kind=3
 ·rw[if_pos k3]
  refine yW ?_;intros
  refine zW .nil zG yY (zN ?_)
  rfl
 rw[if_neg k3]
 by_cases k4:x.kind=4
 ·rw[if_pos k4]
  cases hE:E x.of with
  |none=>
   repeat' first|(refine xD (.lookup _ _ _ true) ?_;apply wW;rfl;rfl;rfl;(apply g_lookupOk;rfl;rfl;exact yP;rfl;rfl;exact dedM_no hE _;exact dedM_bad hE))|(refine yX ?_;intros)|(refine yV ?_ ?_<;>(intro z;cases z with|_ h)<;>intro hp)|exact nl|fail
   refine zW .nil zG zJ ?_
   rfl
  |some y=>
   repeat' first|(refine xD (.lookup _ _ _ true) ?_;apply wW;rfl;rfl;rfl;(apply g_lookupOk;rfl;rfl;exact yP;rfl;rfl;exact dedM_some hE _;exact dedM_ok hE))|(refine yX ?_;intros)|(refine yV ?_ ?_<;>(intro z;cases z with|_ h)<;>intro hp)|exact nl|cases ‹BV _ _›|fail
   all_goals
    refine zW .nil zG yY (zN ?_)
    first|rfl|(rw[Bool.eq_iff_iff];simp[*];done)
 ·rw[if_neg k4]
  refine yW ?_;intros
  refine zW .nil zG zJ ?_
  rfl
theorem dedL_idx(l:List Ded)(g:Nat)(first cap:List AV)(p:Ded→Bool)(σ:List Ent)(he:Enters prog g)(hf: ∀(k:Nat) (c:Ded),l[k]?=some c→SCall prog g (first++[(fun c=>dedV c) c]++cap) σ (Is (.bool (p c)) σ)):
  SCall prog 146 [.dl 9 (l.map dedC),.fn (.func g) first cap] σ (Is (.int .i64 (yG p l 0)) σ):=by
 refine zZ func146 rfl (by simp) ?_
 refine uZ ?_;and_intros<;>first|exact nl|intros
 refine jY (t:=0) rfl (by first|exact(List.length_map _).symm|rfl) (fun hlen=>?_)
 refine zU (fun(k:Nat)=>(⟨[(0,.dl 9 (l.map dedC)),(1,.fn (.func g) first cap),(7,.int .i64 l.length),(8,.int .i64 k)],σ,[],f146.ntmps⟩:St)) (fun k=>k≤l.length∧yG p l 0=yG p (l.drop k) k) (fun k=>l.length-k) 0 (⟨Nat.zero_le _,rfl⟩) (St.le_of zC yY) ?_
 intro k hI
 by_cases hk:k<l.length
 ·obtain⟨c,hc⟩: ∃c,l[k]?=some c:=⟨_,List.getElem?_eq_getElem hk⟩
  have hd:=pU p hc
  repeat' first|(refine zB ?_;intros)|(apply qX;exact zD;rfl;rfl;exact zQ rfl rfl he (hf k c hc))|(refine xB ?_;intros)|(refine yV ?_ ?_<;>(intro z;cases z with|_ h)<;>intro hp)|exact nl|fail
  ·refine zW .nil (.cons (.ofTmp rfl) .nil) (List.Sublist.refl _) (int_eq ?_)
   rw[hI.2,hd,if_pos (by assumption)]
  ·refine⟨k+1,⟨hk,by rw[hI.2,hd,if_neg (by simp[*])]⟩,by omega,St.le_of zC yY⟩
 ·refine uZ ?_;and_intros<;>first|exact nl|intros
  refine zW .nil (.cons (.ofTmp rfl) .nil) (List.Sublist.refl _) (int_eq ?_)
  rw[hI.2,List.drop_of_length_le (by omega)];rfl
theorem dedL_any(l:List Ded)(g:Nat)(first cap:List AV)(p:Ded→Bool)(σ:List Ent)(he:Enters prog g)(hf: ∀(k:Nat) (c:Ded),l[k]?=some c→SCall prog g (first++[(fun c=>dedV c) c]++cap) σ (Is (.bool (p c)) σ)):
  SCall prog 93 [.dl 9 (l.map dedC),.fn (.func g) first cap] σ (Is (.bool (l.any p)) σ):=by
 refine zZ func93 rfl (by simp) ?_
 repeat' first|(apply yQ;exact zD;rfl;rfl;refine zL ?_;exact dedL_idx l g first cap p σ he hf)|(refine xV ?_;and_intros<;>first|exact nl|intros)|cases ‹BV _ _›|fail
 refine zW .nil (.cons (.ofTmp rfl) .nil) (List.Sublist.refl _) (zN ?_)
 exact idxFrom_any p l 0
theorem check1_c(x:Ded)(σ:List Ent):SCall prog 94 [dedV x] σ (Is (.bool (decide ((16:Int)<x.parts.length))) σ):=by
 refine zZ func94 rfl (by simp) ?_
 refine yW ?_;intros
 refine zW .nil zG yY (zN ?_)
 rfl
theorem checkL_c(d:Dis)(l:List Ded)(σ:List Ent):SCall prog 40 [disV d,deds l] σ (Is (.int .i64 (wF xL d l)) σ):=by
 refine zZ func40 rfl (by simp) ?_
 unfold wF
 have c0:=check_c d
 by_cases h0:yZ d=0
 ·rw[if_neg (by simpa using h0)]
  rw[h0]at c0
  obtain⟨hf,hv⟩:=zP h0
  have hF:=(yC hf).2.1
  have hG:=(yC hf).2.2.2.1
  have c1:=fun τ=>dedL_any l 94 [] [] (fun x=>decide ((16:Int)<x.parts.length)) τ (zX (by kernel_rfl)) (fun k c _=>check1_c c τ)
  have hT:tooL l=(decide ((512:Int)<l.length)||l.any fun x=>decide ((16:Int)<x.parts.length)):=rfl
  rw[hT]
  generalize (l.any fun x=>decide ((16:Int)<x.parts.length))=b1 at c1 ⊢
  by_cases h5:(512:Int)<l.length
  ·rw[decide_eq_true h5,Bool.true_or,if_pos rfl]
   repeat' first|(apply yQ;exact zD;rfl;rfl;refine zL ?_;exact c0 _)|(refine xV ?_;and_intros<;>first|exact nl|intros)|fail
   refine zW .nil zG zJ ?_
   rfl
  rw[decide_eq_false h5,Bool.false_or]
  cases b1 with
  |true=>
   rw[if_pos rfl]
   repeat' first|(apply yQ;exact zD;rfl;rfl;refine zL ?_;first|exact c0 _|exact c1 _)|(refine xV ?_;and_intros<;>first|exact nl|intros)|fail
   refine zW .nil zG zJ ?_
   rfl
  |false=>
   rw[if_neg (by decide)]
   obtain⟨V,hV⟩: ∃V,jW xL d none (fun _=>none) l=V:=⟨_,rfl⟩
   rw[hV]
   clear h0 hf hv hT
   repeat' first|(apply yQ;exact zD;rfl;rfl;refine zL ?_;first|exact c0 _|exact c1 _)|(refine xV ?_;and_intros<;>first|exact nl|intros)|fail
   rename Nat=>bm;revert bm;rename Nat=>bd;revert bd
   intro bd bm
   refine jY (t:=21) rfl (by first|exact(List.length_map _).symm|rfl) (fun hlen=>?_)
   refine zU (fun(z:Nat×(Int→Option Ded)×Option Int×Nat)=>(⟨[(1,deds l),(2,.ptr bd 0),(5,.mp bm),(21,deds l),(22,.int .i64 l.length),(23,.int .i64 (z.1:Nat))],.imap bm (dedM z.2.1) z.2.2.2::.cells bd (disC d) 31::σ,[],f40.ntmps⟩:St)) (fun z=>z.1≤l.length∧jW xL d z.2.2.1 z.2.1 (l.drop z.1)=V∧(z.1=0→z.2.2.1=none)∧ ∀y,0<z.1→l[z.1-1]?=some y→z.2.2.1=some y.no) (fun z=>l.length-z.1) (0,fun _=>none,none,0) (⟨Nat.zero_le _,hV,fun _=>rfl,fun y h=>absurd h (Nat.lt_irrefl _)⟩) (St.le_of zC yY) ?_
   intro z hI
   obtain⟨k,E,last,n⟩:=z
   obtain⟨hI1,hI2,hI3,hI4⟩:=hI
   dsimp only at hI1 hI2 hI3 hI4 ⊢
   clear hV c0 c1
   by_cases hk:k<l.length
   ·obtain⟨x,hx⟩:=zH hk
    have gx:=tW hx
    rw[wZ hx]at hI2
    unfold jW at hI2
    have cf:=fun(τ:List Ent) (hm:Ent.imap bm (dedM E) n∈τ)=>fits_c d hF hG E x hm
    generalize fitsB xL d E x=F at cf hI2
    have hnext: ∀y,0<k+1→l[k+1-1]?=some y→some x.no=some y.no:=fun y _ hy=>by
     rw[Nat.add_sub_cancel,hx]at hy;cases hy;rfl
    rcases Nat.eq_zero_or_pos k with rfl|hk0
    ·rw[hI3 rfl]at hI2
     dsimp only at hI2
     rw[Bool.true_and]at hI2
     clear hI3 hI4 hx
     cases F with
     |false=>
      rw[Bool.false_and]at hI2
      subst hI2
      repeat' first|(apply zwX;exact zD;rfl;rfl;intro σ' hl;refine zL ?_;exact cf _ yP)|(refine xV ?_;and_intros<;>first|exact nl|intros)|refine zTd ?_|cases ‹BV _ _›|exact wG|fail
      refine zW .nil zG zJ ?_
      rfl
     |true=>
      rw[Bool.true_and]at hI2
      repeat' first|(refine xD (.mapUpdate _ _ _ _) ?_;apply yE;rfl;rfl;(apply g_mapUpdate;rfl;rfl;rfl;rfl;exact qJ;exact dedM_upd E x))|(refine yX ?_;intros)|refine zTd ?_|(apply zwX;exact zD;rfl;rfl;intro σ' hl;refine zL ?_;exact cf _ yP)|(refine yV ?_ ?_<;>(intro z;cases z with|_ h)<;>intro hp)|exact nl|cases ‹BV _ _›|exact wG|fail
      exact⟨(1,putE E x,some x.no,_),⟨hk,hI2,fun h=>(by cases h),hnext⟩,by dsimp only;omega,(St.le_of zC zJ)⟩
    ·obtain⟨y,hy⟩:=zH (show k-1<l.length by omega)
     have gy:=tW hy
     rw[hI4 y hk0 hy]at hI2
     dsimp only at hI2
     have hz:(k:Int)-1=((k-1:Nat):Int):=by omega
     have hki:(0:Int)<k:=by omega
     clear hI3 hI4 hx hy
     by_cases hn:y.no<x.no
     ·rw[decide_eq_true hn,Bool.true_and]at hI2
      cases F with
      |false=>
       rw[Bool.false_and]at hI2
       subst hI2
       repeat' first|(apply zwX;exact zD;rfl;rfl;intro σ' hl;refine zL ?_;exact cf _ yP)|(refine xV ?_;and_intros<;>first|exact nl|intros)|refine zTd ?_|cases ‹BV _ _›|exact wG|fail
       refine zW .nil zG zJ ?_
       rfl
      |true=>
       rw[Bool.true_and]at hI2
       repeat' first|(refine xD (.mapUpdate _ _ _ _) ?_;apply yE;rfl;rfl;(apply g_mapUpdate;rfl;rfl;rfl;rfl;exact qJ;exact dedM_upd E x))|(refine yX ?_;intros)|refine zTd ?_|(apply zwX;exact zD;rfl;rfl;intro σ' hl;refine zL ?_;exact cf _ yP)|(refine yV ?_ ?_<;>(intro z;cases z with|_ h)<;>intro hp)|exact nl|cases ‹BV _ _›|exact wG|fail
       exact⟨(k+1,putE E x,some x.no,_),⟨hk,hI2,fun h=>(by omega),hnext⟩,by dsimp only;omega,(St.le_of zC zJ)⟩
     ·rw[decide_eq_false hn,Bool.false_and,Bool.false_and]at hI2
      subst hI2
      clear cf
      repeat' first|(refine xV ?_;and_intros<;>first|exact nl|intros)|refine zTd ?_|fail
      refine zW .nil zG zJ ?_
      rfl
   ·obtain rfl:k=l.length:=by omega
    rw[List.drop_length]at hI2
    simp only[jW]at hI2
    subst hI2
    refine yW ?_;intros
    refine zW .nil zG zJ ?_
    rfl
 ·rw[if_pos (by simpa using h0)]
  generalize yZ d=e at c0 h0 ⊢
  repeat' first|(apply yQ;exact zD;rfl;rfl;refine zL ?_;exact c0 _)|(refine xV ?_;and_intros<;>first|exact nl|intros)|fail
  refine zW .nil zG zJ ?_
  rfl
end Go.Proofs.YtaoaafdommlhcaaGreat
