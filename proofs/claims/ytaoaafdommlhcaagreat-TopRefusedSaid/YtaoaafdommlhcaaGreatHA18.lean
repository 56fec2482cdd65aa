/- Parts of the proof that belong together: Df Dg Dh Ua Ue. -/
import Derived.Test.YtaoaafdommlhcaaGreatHA07
import Derived.Test.YtaoaafdommlhcaaGreatHA09
import Derived.Test.YtaoaafdommlhcaaGreatHA11
import Derived.Test.YtaoaafdommlhcaaGreatHA15
import Derived.Test.YtaoaafdommlhcaaGreatHA16
import Derived.Test.YtaoaafdommlhcaaGreatHA17
set_option maxRecDepth 10000
set_option maxHeartbeats 4000000
set_option linter.unusedSimpArgs false
set_option linter.unusedVariables false
set_option autoImplicit false
open Go.Proofs.Tryz
namespace Go.Proofs.YtaoaafdommlhcaaGreat
theorem ded_one(l:List Ded): ∀y∈l.map dedC,y.all AV.one=true:=by
 intro y hy
 obtain⟨_,_,rfl⟩:=List.mem_map.1 hy
 rfl
theorem cloneD_c(l:List Ded)(hl:l.length≤10000)(σ:List Ent):SCall prog 45 [deds l] σ (fun r τ=> ∃v,r=.slv v∧τ=.row v 35 9 (l.map dedC)::σ):=by
 refine zZ func45 rfl (by simp) ?_
 have h1:=ded_one l
 by_cases h0:l=[]
 ·subst h0
  refine xX 35 9 ?_
  repeat' first|(refine zge ?_;(refine zK rfl rfl rfl (g_eqlNilE rfl rfl) ?_;rintro _ _ ⟨b⟩))|(refine yX ?_;intros)|(refine yV ?_ ?_<;>(intro z;cases z with|_ h)<;>intro hp)|fail
  ·refine zS (σ3:=.row nilS 35 9 (List.map dedC [])::σ) .nil zG zJ ?_
   exact zY ⟨nilS,rfl,rfl⟩
  ·rename_i v3
   refine zS (σ3:=.row v3 35 9 (List.map dedC [])::σ) .nil zG zJ ?_
   exact zY ⟨v3,rfl,rfl⟩
 ·have hlen:0<(l.map dedC).length:=by rw[List.length_map];exact List.length_pos_iff.2 h0
  repeat' first|(refine zB ?_;intros)|(apply qX;exact zD;rfl;rfl;(apply g_eqlNil;rfl;rfl;exact hlen))|(refine xB ?_;intros)|fail
  rename_i v3
  refine zS (σ3:=.row v3 35 9 (l.map dedC)::σ) .nil zG zJ ?_
  exact zY ⟨v3,rfl,rfl⟩
theorem addD1_c(x:Ded)(n:Int)(σ:List Ent):SCall prog 42 [.agg (dedC x),.int .i64 n] σ (Is (.int .i64 (wQ x.no n)) σ):=by
 refine zZ func42 rfl (by simp) ?_
 repeat' first|(apply yQ;exact zD;rfl;rfl;refine zL ?_;exact cmpI_c _ _ _)|(refine xV ?_;and_intros<;>first|exact nl|intros)|fail
 refine zW .nil zG zJ ?_
 rfl
section
variable {α:Type} {L J Z:List α} {X:α} {i:Nat}
theorem cut_end(h:i≤L.length):(cut L i L.length).take (L.length-i)=L.drop i:=by
 unfold cut
 rw[List.take_take,Nat.min_self,List.take_of_length_le (by rw[List.length_drop];omega)]
theorem ins_new(hi:i≤L.length)(hZ:Z.length=L.length+1-i):tU (tU (L.take i++Z) i [X]) (i+1) ((cut L i L.length).take (L.length-i))=L.take i++X::L.drop i:=by
 rw[cut_end hi]
 have hl:(L.take i).length=i:=by rw[List.length_take];omega
 have h1:tU (L.take i++Z) i [X]=(L.take i++[X])++(L.take i++Z).drop (i+1):=by
  unfold tU
  rw[List.take_left' hl];rfl
 have h2:(L.take i++[X]).length=i+1:=by rw[List.length_append,hl];rfl
 have h3:(tU (L.take i++Z) i [X]).length=L.length+1:=by
  rw[tG (by rw[List.length_append,hl,List.length_singleton];omega),List.length_append,hl];omega
 have h4:(tU (L.take i++Z) i [X]).drop (i+1+(L.drop i).length)=[]:=List.drop_of_length_le (by rw[h3,List.length_drop];omega)
 have h5:(tU (L.take i++Z) i [X]).take (i+1)=L.take i++[X]:=by rw[h1,List.take_left' h2]
 show (tU (L.take i++Z) i [X]).take (i+1)++L.drop i++(tU (L.take i++Z) i [X]).drop (i+1+(L.drop i).length)=_
 rw[h4,h5]
 simp
theorem cut_old(hi:i≤L.length)(hJ:J.length=1):(cut (L++J) i (L.length+1)).take (L.length-i)=L.drop i:=by
 unfold cut
 rw[List.take_take,Nat.min_eq_left (by omega),List.drop_append_of_le_length hi,List.take_left' (by rw[List.length_drop])]
theorem ins_old(hi:i≤L.length)(hJ:J.length=1):tU (tU (L++J) (i+1) ((cut (L++J) i (L.length+1)).take (L.length-i))) i [X]=L.take i++X::L.drop i:=by
 rw[cut_old hi hJ]
 have hl:((L++J).take (i+1)).length=i+1:=by rw[List.length_take,List.length_append];omega
 have h1:tU (L++J) (i+1) (L.drop i)=(L++J).take (i+1)++L.drop i:=by
  have h4:(L++J).drop (i+1+(L.drop i).length)=[]:=List.drop_of_length_le (by rw[List.length_append,List.length_drop];omega)
  show (L++J).take (i+1)++L.drop i++(L++J).drop (i+1+(L.drop i).length)=_
  rw[h4,List.append_nil]
 rw[h1,tU,List.take_append_of_le_length (by rw[hl];omega),List.take_take,Nat.min_eq_left (by omega),List.take_append_of_le_length hi]
 rw[show i+[X].length=i+1 from rfl,List.drop_left' hl]
 simp
end
theorem insertD_c(l:List Ded)(x:Ded)(i:Nat)(hi:i≤l.length)(hl:l.length≤10000)(v v2:Value)(σ:List Ent):
  SCall prog 44 [.slv v,.int .i64 i,.slv v2] (.row v 35 9 (l.map dedC)::.row v2 35 9 [dedC x]::σ) (Is (deds (l.take i++x::l.drop i)) σ):=by
 refine zZ func44 rfl (by simp) ?_
 have h1:=ded_one l
 have hl1:[dedC x].length=1:=rfl
 have hx1: ∀y∈[dedC x].take 1,y.all AV.one=true:=fun y hy=>by rw[show [dedC x].take 1=[dedC x] from rfl,List.mem_singleton]at hy;subst hy;rfl
 have hres:deds (l.take i++x::l.drop i)=.dl 9 ((l.map dedC).take i++dedC x::(l.map dedC).drop i):=by simp[deds]
 rw[hres]
 obtain⟨L,hL⟩: ∃L,l.map dedC=L:=⟨_,rfl⟩
 have hlm:L.length=l.length:=by rw[←hL];exact List.length_map _
 obtain⟨n,hn⟩: ∃n,l.length=n:=⟨_,rfl⟩
 rw[hn]at hi hl hlm
 rw[hL]at h1 ⊢
 clear hres hL hn
 subst hlm
 by_cases he:i=L.length
 ·refine yW ?_;intros
  rename_i v3
  rw[List.take_of_length_le (by omega),List.drop_of_length_le (by omega)]
  refine zS (σ3:=.row v3 35 9 (L++[dedC x])::σ) .nil zG zJ ?_
  exact xS .here (.here .nil) (zY .mk)
 ·have hne:L≠[]:=fun e=>by rw[e]at he hi;simp at he hi;omega
  have hjf2:((L.length:Nat):Int)+(([dedC x].length:Nat):Int)-(i:Int)=((L.length+1-i:Nat):Int):=by omega
  have hif:(i:Int)+(([dedC x].length:Nat):Int)=((i+1:Nat):Int):=by omega
  have hnf:((L.length:Nat):Int)+(([dedC x].length:Nat):Int)=((L.length+1:Nat):Int):=by omega
  by_cases hc:(capS v:Int)<(L.length:Int)+1
  ·repeat' first|(refine zge ?_;(refine zK rfl rfl rfl (g_appendOverE rfl rfl rfl rfl rfl hjf2 (by omega) yP (by omega) (by omega) (Nat.le_trans (Nat.mul_le_mul_right _ (show i+(L.length+1-i)≤20000 by omega)) (Nat.le_of_ble_eq_true rfl)) hne) ?_;rintro _ _ ⟨v3,Z,hZ⟩;have hJl:(L.take i++Z).length=L.length+1:=by (rw[List.length_append,List.length_take,hZ];omega)))|(refine zB ?_;intros)|(apply qX;exact zD;rfl;rfl;first|((apply g_capRow;rfl;rfl;exact yP))|((exact g_copy (c:=1) rfl rfl rfl (.s (.r yP)) qJ (by omega) (Nat.le_refl _) (by rw[hJl,hl1];omega) hx1)))|(refine yV ?_ ?_<;>(intro z;cases z with|_ h)<;>intro hp)|exact nl|fail
   refine yS (s':=⟨[(0,.slv v),(1,.int .i64 i),(7,.int .i64 (([dedC x].length:Nat):Int)),(9,.slv v3)],.row v3 35 9 (tU (L.take i++Z) i [dedC x])::.row v 35 9 L::σ,[],f44.ntmps⟩) (St.le_of zC yY) ?_
   have hfin:=ins_new (X:=dedC x) hi hZ
   have hOl:(tU (L.take i++Z) i [dedC x]).length=L.length+1:=by rw[tG (by rw[hJl,hl1];omega),hJl]
   generalize tU (L.take i++Z) i [dedC x]=OJ at hfin hOl ⊢
   have hcut: ∀y∈(cut L i L.length).take (L.length-i),y.all AV.one=true:=fun y hy=>h1 y (List.mem_of_mem_drop (List.mem_of_mem_take (List.mem_of_mem_take hy)))
   refine ex_drawLK (fun e=>e=.row v 35 9 L∨e=.row v3 35 9 OJ) 8 [] rfl (by kernel_rfl) rfl ?_
   simp only[List.take_succ_cons,List.take_zero,List.drop_succ_cons,List.drop_zero]
   repeat' first|(refine zB ?_;intros)|(apply qX;exact zD;rfl;rfl;(exact g_copy (c:=L.length-i) rfl rfl rfl (.p yP (by omega) (Nat.le_refl _)) qJ (by omega) (Nat.le_refl _) (by rw[cut_len (Nat.le_refl _),hOl];omega) hcut))|fail
   rw[←hfin]
   refine zS (σ3:=.row v3 35 9 (tU OJ (i+1) ((cut L i L.length).take (L.length-i)))::σ) .nil zG zJ ?_
   exact xS .here (.here .nil) (zY .mk)
  ·repeat' first|(refine zge ?_;(refine zK rfl rfl rfl (g_openRow rfl rfl (fun v' J=>Upd.here) rfl hnf (by omega)) ?_;rintro _ _ ⟨v',J,hJ⟩;have hJl:(L++J).length=L.length+1:=by (rw[List.length_append,hJ])))|(refine zB ?_;intros)|(apply qX;exact zD;rfl;rfl;first|((apply g_capRow;rfl;rfl;exact yP))|((exact g_overlaps rfl rfl rfl rfl rfl rfl rfl rfl rfl (.there .here) (.head _) (by decide) (by decide) (by simp[hne]))))|(refine yV ?_ ?_<;>(intro z;cases z with|_ h)<;>intro hp)|exact nl|fail
   refine yS (s':=⟨[(0,.slv v'),(1,.int .i64 i),(2,.slv v2),(7,.int .i64 (([dedC x].length:Nat):Int))],.row v' 35 9 (L++J)::.row v2 35 9 [dedC x]::σ,[],f44.ntmps⟩) (St.le_of zC yY) ?_
   have hfin:=ins_old (X:=dedC x) hi hJ
   rw[←hJl]at hfin
   have hRl:(tU (L++J) (i+[dedC x].length) (List.take (L.length-i) (cut (L++J) i (L++J).length))).length=L.length+1:=by
    rw[tG (by rw[hJl,List.length_take,cut_len (by omega),hl1];omega),hJl]
   have hcut: ∀y∈(cut (L++J) i (L++J).length).take (L.length-i),y.all AV.one=true:=fun y hy=>by
    rw[hJl,cut_old hi hJ]at hy
    exact h1 y (List.mem_of_mem_drop hy)
   refine ex_drawLK (fun e=>e=.row v' 35 9 (L++J)) 8 [] rfl (by kernel_rfl) rfl ?_
   simp only[List.take_succ_cons,List.take_zero,List.drop_succ_cons,List.drop_zero]
   repeat' first|(refine zB ?_;intros)|(apply qX;exact zD;rfl;rfl;first|((exact g_copy (c:=L.length-i) rfl rfl rfl (.p yP (by omega) (Nat.le_refl _)) qJ (by omega) (Nat.le_refl _) (by rw[cut_len (Nat.le_refl _),hJl];omega) hcut))|((exact g_copy (c:=1) rfl rfl rfl (.s (.r yP)) qJ (by omega) (Nat.le_refl _) (by omega) hx1)))|fail
   rw[←hfin]
   refine zS (σ3:=.row v' 35 9 (tU (tU (L++J) (i+1) ((cut (L++J) i (L++J).length).take (L.length-i))) i [dedC x])::σ) .nil zG zJ ?_
   exact xS .here (.here .nil) (zY .mk)
def lowF(n:Int)(x:Ded):Bool:=decide (x.no<n)
def insF(l:List Ded)(x:Ded):List Ded:=l.takeWhile (lowF x.no)++x::l.dropWhile (lowF x.no)
def metF(l:List Ded)(x:Ded):Bool:=match l.dropWhile (lowF x.no) with|[]=>false|y::_=>decide (y.no=x.no)
theorem low_split: ∀{l:List Ded} {n:Int} {i:Nat},i≤l.length→(∀y∈l.take i,y.no<n)→(∀y∈l.drop i,¬ y.no<n)→l.takeWhile (lowF n)=l.take i∧l.dropWhile (lowF n)=l.drop i
 |[],n,i,_,_,_=>by simp
 |x::r,n,0,_,_,h2=>by
  have:=h2 x (by simp)
  rw[List.takeWhile_cons_of_neg (by simpa [lowF]using this),List.dropWhile_cons_of_neg (by simpa [lowF]using this)]
  exact⟨rfl,rfl⟩
 |x::r,n,i+1,hi,h1,h2=>by
  have hx:=h1 x (by simp)
  obtain⟨e1,e2⟩:=low_split (l:=r) (n:=n) (i:=i) (by simpa using hi) (fun y hy=>h1 y (by simp[hy])) (fun y hy=>h2 y (by simpa using hy))
  rw[List.takeWhile_cons_of_pos (by simpa [lowF]using hx),List.dropWhile_cons_of_pos (by simpa [lowF]using hx),e1,e2]
  exact⟨rfl,rfl⟩
theorem up_before{l:List Ded}{k:Nat}{c:Ded}(hp:l.Pairwise fun x y=>x.no<y.no)(h:l[k]?=some c):(∀y∈l.take k,y.no<c.no)∧ ∀y∈l.drop k,c.no≤y.no:=by
 rw[←List.take_append_drop k l,drop_get h,List.pairwise_append,List.pairwise_cons]at hp
 refine⟨fun y hy=>hp.2.2 y hy c (by simp),fun y hy=>?_⟩
 rw[drop_get h]at hy
 rcases List.mem_cons.1 hy with rfl|hy
 ·omega
 ·have:=hp.2.1.1 y hy;omega
theorem bsearchD_c(l:List Ded)(x:Ded)(hl:l.length≤512)(hp:l.Pairwise fun x y=>x.no<y.no)(σ:List Ent):SCall prog 41 [deds l,.int .i64 x.no,.fn (.func 42) [] []] σ (Is (.tup [.int .i64 (((l.takeWhile (lowF x.no)).length:Nat):Int),.bool (metF l x)]) σ):=by
 refine zZ func41 rfl (by simp) ?_
 refine yW ?_;intros
 refine zU (fun(z:Nat×Nat)=>(⟨[(0,deds l),(1,.int .i64 x.no),(2,.fn (.func 42) [] []),(8,.int .i64 l.length),(9,.int .i64 z.1),(10,.int .i64 z.2)],σ,[],f41.ntmps⟩:St)) (fun z=>z.1≤z.2∧z.2≤l.length∧(∀y∈l.take z.1,y.no<x.no)∧ ∀y∈l.drop z.2,¬ y.no<x.no) (fun z=>z.2-z.1) (0,l.length) (⟨Nat.zero_le _,Nat.le_refl _,by simp,by simp⟩) (St.le_of zC yY) ?_
 intro z hI
 obtain⟨i,j⟩:=z
 obtain⟨hI1,hI2,hI3,hI4⟩:=hI
 dsimp only at hI1 hI2 hI3 hI4 ⊢
 by_cases hij:i<j
 ·obtain⟨k,hk⟩: ∃k,(i+j)/2=k:=⟨_,rfl⟩
  obtain⟨c,hc⟩: ∃c,l[k]?=some c:=⟨_,List.getElem?_eq_getElem (by omega)⟩
  have hgc:=tW hc
  obtain⟨u1,u2⟩:=up_before hp hc
  have hst: ∀y∈l.take (k+1),y=c∨y∈l.take k:=fun y hy=>by
   rw[List.take_add_one,hc]at hy
   rcases List.mem_append.1 hy with hy|hy
   ·exact .inr hy
   ·simp only[Option.toList_some,List.mem_singleton]at hy;exact .inl hy
  have hij2:(i:Int)+(j:Int)=((i+j:Nat):Int):=by omega
  have hkz:(((i+j)/2:Nat):Int)=((k:Nat):Int):=by rw[hk]
  by_cases hlow:c.no<x.no
  ·have hcm:wQ c.no x.no= -1:=by unfold wQ;rw[if_pos hlow]
   have cc:=addD1_c c x.no
   rw[hcm]at cc
   have hnew: ∀y∈l.take (k+1),y.no<x.no:=fun y hy=>by
    rcases hst y hy with rfl|hy
    ·exact hlow
    ·have:=u1 y hy;omega
   clear u1 u2 hst hI3 hcm
   repeat' first|(refine zB ?_;intros)|(apply qX;exact zD;rfl;rfl;first|((apply kB;rfl;rfl;rfl;exact⟨by omega,by omega⟩))|((apply kC;rfl;rfl;rfl;exact hij2)))|(refine xB ?_;intros)|(apply yQ;exact zD;rfl;rfl;refine zL ?_;exact cc _)|(refine yV ?_ ?_<;>(intro z;cases z with|_ h)<;>intro hp)|exact nl|fail
   rw[hkz]
   refine⟨(k+1,j),⟨by dsimp only;omega,hI2,hnew,hI4⟩,by dsimp only;omega,?_⟩
   dsimp only
   exact(St.le_of zC zJ)
  ·have hcm:0≤wQ c.no x.no:=by unfold wQ;rw[if_neg hlow];split<;>omega
   have cc:=addD1_c c x.no
   generalize wQ c.no x.no=cv at cc hcm
   have hnew: ∀y∈l.drop k,¬ y.no<x.no:=fun y hy=>by have:=u2 y hy;omega
   clear u1 u2 hst hI4
   repeat' first|(refine zB ?_;intros)|(apply qX;exact zD;rfl;rfl;first|((apply kB;rfl;rfl;rfl;exact⟨by omega,by omega⟩))|((apply kC;rfl;rfl;rfl;exact hij2)))|(refine xB ?_;intros)|(apply yQ;exact zD;rfl;rfl;refine zL ?_;exact cc _)|(refine yV ?_ ?_<;>(intro z;cases z with|_ h)<;>intro hp)|exact nl|fail
   rw[hkz]
   refine⟨(i,k),⟨by dsimp only;omega,by dsimp only;omega,hI3,hnew⟩,by dsimp only;omega,?_⟩
   dsimp only
   exact(St.le_of zC zJ)
 ·have e:i=j:=by omega
  subst e
  obtain⟨e1,e2⟩:=low_split hI2 hI3 hI4
  have hlen:(l.takeWhile (lowF x.no)).length=i:=by rw[e1,List.length_take];omega
  rw[hlen]
  unfold metF
  rw[e2]
  clear hI3 hI4 e1 e2 hlen
  by_cases hi:i<l.length
  ·obtain⟨c,hc⟩: ∃c,l[i]?=some c:=⟨_,List.getElem?_eq_getElem hi⟩
   have hgc:=tW hc
   have cc:=addD1_c c x.no
   have hcm:(wQ c.no x.no==0)=decide (c.no=x.no):=by
    unfold wQ
    by_cases h1:c.no<x.no
    ·rw[if_pos h1,decide_eq_false (by omega)];rfl
    ·rw[if_neg h1]
     by_cases h2:x.no<c.no
     ·rw[if_pos h2,decide_eq_false (by omega)];rfl
     ·rw[if_neg h2,decide_eq_true (by omega)];rfl
   rw[drop_get hc]
   dsimp only
   rw[←hcm]
   generalize wQ c.no x.no=cv at cc
   clear hcm
   repeat' first|(apply yQ;exact zD;rfl;rfl;refine zL ?_;exact cc _)|(refine xV ?_;and_intros<;>first|exact nl|intros)|cases ‹BV _ _›|fail
   all_goals
    refine zW .nil zG zJ ?_
    rfl
  ·rw[List.drop_of_length_le (by omega)]
   refine yW ?_;intros
   refine zW .nil zG zJ ?_
   rfl
theorem ins_take(l:List Ded)(x:Ded):l.take (l.takeWhile (lowF x.no)).length++x::l.drop (l.takeWhile (lowF x.no)).length=insF l x:=by
 have h:=List.takeWhile_append_dropWhile (p:=lowF x.no) (l:=l)
 have e1:l.take (l.takeWhile (lowF x.no)).length=l.takeWhile (lowF x.no):=by
  conv=>lhs;arg 2;rw[←h]
  rw[List.take_left' rfl]
 have e2:l.drop (l.takeWhile (lowF x.no)).length=l.dropWhile (lowF x.no):=by
  conv=>lhs;arg 2;rw[←h]
  rw[List.drop_left' rfl]
 rw[e1,e2];rfl
theorem insertD2_c(l:List Ded)(x:Ded)(i:Nat)(hi:i≤l.length)(hl:l.length≤10000)(v v2:Value)(σ:List Ent):
  SCall prog 44 [.slv v,.int .i64 i,.slv v2] (.row v2 35 9 [dedC x]::.row v 35 9 (l.map dedC)::σ) (Is (deds (l.take i++x::l.drop i)) σ):=
 ⟨fun X M w vs hg ha=>(insertD_c l x i hi hl v v2 σ).run X M w vs (hg.perm (.swap _ _ _)) ha⟩
theorem deeds_up{d:Dis}{add:Rt2→Rt2→Rt2×Int}: ∀{l:List Ded} {last:Option Int} {E:Int→Option Ded},jW add d last E l=true→(∀n,last=some n→ ∀y∈l,n<y.no)∧l.Pairwise fun x y=>x.no<y.no
 |[],_,_,_=>⟨fun _ _ y hy=>(by cases hy),.nil⟩
 |x::l,last,E,h=>by
  unfold jW at h
  simp only[Bool.and_eq_true]at h
  obtain⟨i1,i2⟩:=deeds_up h.2
  have i3:=i1 x.no rfl
  refine⟨?_,List.pairwise_cons.2 ⟨i3,i2⟩⟩
  rintro n rfl y hy
  have h1:=h.1.1
  simp only[decide_eq_true_eq]at h1
  rcases List.mem_cons.1 hy with rfl|hy
  ·exact h1
  ·have:=i3 y hy;omega
theorem checkL_zero{add:Rt2→Rt2→Rt2×Int}{d:Dis}{l:List Ded}(h:wF add d l=0):yZ d=0∧l.length≤512∧(∀x∈l,x.parts.length≤16)∧jW add d none (fun _=>none) l=true:=by
 unfold wF at h
 by_cases h0:yZ d=0
 ·rw[if_neg (by simpa using h0)]at h
  cases ht:tooL l with
  |true=>rw[ht]at h;simp at h
  |false=>
   rw[ht,if_neg (by decide)]at h
   cases hd:jW add d none (fun _=>none) l with
   |false=>rw[hd]at h;simp at h
   |true=>
    unfold tooL at ht
    simp only[Bool.or_eq_false_iff,decide_eq_false_iff_not,List.any_eq_false,decide_eq_true_eq]at ht
    exact⟨h0,by omega,fun x hx=>by have:=ht.2 x hx;omega,rfl⟩
 ·rw[if_pos (by simpa using h0)]at h;exact absurd h h0
def addL(d:Dis)(l:List Ded)(x:Ded):List Ded×Int:=if wF xL d l≠0 then ([],wF xL d l)else if metF l x then ([],171)else if wF xL d (insF l x)≠0 then ([],wF xL d (insF l x))else (insF l x,0)
theorem addL_c(d:Dis)(l:List Ded)(x:Ded)(σ:List Ent):SCall prog 12 [disV d,deds l,dedV x] σ (Is (.tup [deds (addL d l x).1,.int .i64 (addL d l x).2]) σ):=by
 refine zZ func12 rfl (by simp) ?_
 have c0:=checkL_c d l
 unfold addL
 by_cases h:wF xL d l=0
 ·obtain⟨_,hz,_,hdd⟩:=checkL_zero h
  have hp:=(deeds_up hdd).2
  rw[h]at c0
  rw[if_neg (by rw[h];simp)]
  have c1:=bsearchD_c l x hz hp
  have hti:(l.takeWhile (lowF x.no)).length≤l.length:=(List.takeWhile_sublist _).length_le
  have c2:=cloneD_c l (by omega)
  have c3:=insertD_c l x _ hti (by omega)
  have c4:=insertD2_c l x _ hti (by omega)
  rw[ins_take]at c3 c4
  have c5:=checkL_c d (insF l x)
  generalize (l.takeWhile (lowF x.no)).length=ti at c1 c3 c4
  generalize insF l x=y at c3 c4 c5 ⊢
  clear hp hti h hdd
  cases hm:metF l x with
  |true=>
   rw[hm]at c1
   rw[if_pos rfl]
   repeat' first|(apply yQ;exact zD;rfl;rfl;refine zL ?_;first|exact c0 _|exact c1 _)|(refine xV ?_;and_intros<;>first|exact nl|intros)|fail
   refine zS (σ3:=σ) .nil zG zJ ?_
   exact xK (sz:=9) (.tup (.here (.same .nil)) .nil) (zY .mk)
  |false=>
   rw[hm]at c1
   rw[if_neg (by simp)]
   repeat' first|(apply yQ;exact zD;rfl;rfl;refine zL ?_;first|exact c0 _|exact c1 _)|(refine xV ?_;and_intros<;>first|exact nl|intros)|fail
   rename Nat=>b;revert b;rename Nat=>bd;revert bd
   intro bd b
   clear c0 c1 hm hz
   refine wH (fun e=>e=.cells b (dedC x) 35∨e=.cells bd (disC d) 31) [1,4,5] rfl rfl ?_
   repeat' first|(refine zgd ?_;first|(refine yN rfl rfl (zQ rfl rfl (zX (by kernel_rfl)) (c2 _)) ?_;rintro _ _ ⟨v,rfl,rfl⟩;refine⟨zks,?_⟩)|(refine yN rfl rfl (zQ rfl rfl (zX (by kernel_rfl)) (c3 _ _ _)) ?_;rintro _ _ ⟨⟩;refine⟨zks,?_⟩)|(refine yN rfl rfl (zQ rfl rfl (zX (by kernel_rfl)) (c4 _ _ _)) ?_;rintro _ _ ⟨⟩;refine⟨zks,?_⟩))|(refine yX ?_;intros)|refine vX rfl rfl rfl ?_ ?_|fail
   all_goals
    clear c2 c3 c4
    by_cases hy:wF xL d y=0
    ·rw[hy]at c5
     rw[if_neg (by rw[hy];simp)]
     repeat' first|(apply yQ;exact zD;rfl;rfl;refine zL ?_;exact c5 _)|(refine xV ?_;and_intros<;>first|exact nl|intros)|fail
     refine zW .nil zG zJ ?_
     rfl
    ·rw[if_pos hy]
     generalize wF xL d y=e at c5 hy ⊢
     repeat' first|(apply yQ;exact zD;rfl;rfl;refine zL ?_;exact c5 _)|(refine xV ?_;and_intros<;>first|exact nl|intros)|fail
     refine zS (σ3:=σ) .nil zG zJ ?_
     exact xK (sz:=9) (.tup (.here (.same .nil)) .nil) (zY .mk)
 ·rw[if_pos h]
  generalize wF xL d l=e at c0 h ⊢
  repeat' first|(apply yQ;exact zD;rfl;rfl;refine zL ?_;exact c0 _)|(refine xV ?_;and_intros<;>first|exact nl|intros)|fail
  refine zS (σ3:=σ) .nil zG zJ ?_
  exact xK (sz:=9) (.tup (.here (.same .nil)) .nil) (zY .mk)
abbrev Ey:=Nat×Ded
theorem snoc_or{α:Type}(l:List α):l=[]∨ ∃k x,l=k++[x]:=by
 rcases List.eq_nil_or_concat l with h|⟨k,x,h⟩
 ·exact .inl h
 ·exact .inr ⟨k,x,by simpa using h⟩
theorem vJ{α:Type}{l:List α}{i:Nat}(h:i<l.length): ∃x,l[i]?=some x:=⟨_,List.getElem?_eq_getElem h⟩
theorem same_up{α:Type}{r:α→α→Prop}(ha: ∀a b,r a b→r b a→False): ∀{l m:List α},l.Pairwise r→m.Pairwise r→(∀y,y∈l↔y∈m)→l=m
 |[],[],_,_,_=>rfl
 |[],y::m,_,_,h=>absurd ((h y).2 (by simp)) (by simp)
 |x::l,[],_,_,h=>absurd ((h x).1 (by simp)) (by simp)
 |x::l,y::m,hl,hm,h=>by
  rw[List.pairwise_cons]at hl hm
  have hxy:x=y:=by
   rcases List.mem_cons.1 ((h x).1 (by simp))with e|h1
   ·exact e
   ·rcases List.mem_cons.1 ((h y).2 (by simp))with e|h2
    ·exact e.symm
    ·exact(ha _ _ (hm.1 x h1) (hl.1 y h2)).elim
  subst hxy
  rw[same_up ha hl.2 hm.2 fun z=>?_]
  constructor
  ·intro hz
   rcases List.mem_cons.1 ((h z).1 (by simp[hz]))with rfl|h1
   ·exact(ha _ _ (hl.1 z hz) (hl.1 z hz)).elim
   ·exact h1
  ·intro hz
   rcases List.mem_cons.1 ((h z).2 (by simp[hz]))with rfl|h1
   ·exact(ha _ _ (hm.1 z hz) (hm.1 z hz)).elim
   ·exact h1
def qA(a b:Ey):Prop:=a.2.at_<b.2.at_∨(a.2.at_=b.2.at_∧a.1<b.1)
instance (a b:Ey):Decidable (qA a b):=by unfold qA;infer_instance
def insE(e:Ey):List Ey→List Ey
 |[]=>[e]
 |x::l=>if qA e x then e::x::l else x::insE e l
def sortE(l:List Ey):List Ey:=l.foldr insE []
theorem insE_mem{e y:Ey}: ∀{l:List Ey},y∈insE e l↔y=e∨y∈l
 |[]=>by simp[insE]
 |x::l=>by
  rw[insE]
  split
  ·simp
  ·rw[List.mem_cons,insE_mem (l:=l),List.mem_cons];exact or_left_comm
theorem sortE_mem{y:Ey}: ∀{l:List Ey},y∈sortE l↔y∈l
 |[]=>by simp[sortE]
 |x::l=>by
  show y∈insE x (sortE l)↔_
  rw[insE_mem,sortE_mem (l:=l),List.mem_cons]
theorem ltE_trans{a b c:Ey}(h:qA a b)(k:qA b c):qA a c:=by unfold qA at *;omega
theorem ltE_asymm(a b:Ey)(h:qA a b)(k:qA b a):False:=by unfold qA at *;omega
theorem insE_up{e:Ey}: ∀{l:List Ey},l.Pairwise qA→(∀x∈l,x.1≠e.1)→(insE e l).Pairwise qA
 |[],_,_=>by simp[insE]
 |x::l,h,hn=>by
  rw[insE]
  have h':=List.pairwise_cons.1 h
  split
  ·rename_i hlt
   refine List.pairwise_cons.2 ⟨fun y hy=>?_,h⟩
   rcases List.mem_cons.1 hy with rfl|hy
   ·exact hlt
   ·exact ltE_trans hlt (h'.1 y hy)
  ·rename_i hlt
   refine List.pairwise_cons.2 ⟨fun y hy=>?_,insE_up h'.2 fun y hy=>hn y (by simp[hy])⟩
   rcases insE_mem.1 hy with rfl|hy
   ·have:=hn x (by simp);unfold qA at *;omega
   ·exact h'.1 y hy
theorem sortE_up: ∀{l:List Ey},l.Pairwise (fun a b=>a.1<b.1)→(sortE l).Pairwise qA
 |[],_=>.nil
 |x::l,h=>by
  have h':=List.pairwise_cons.1 h
  refine insE_up (sortE_up h'.2) fun y hy=>?_
  have:=h'.1 y (sortE_mem.1 hy);omega
section
variable {α:Type}
def swp2(L:List α)(i j:Nat):List α:=match L[i]?,L[j]? with
 |some x,some y=>(L.set i y).set j x
 |_,_=>L
theorem set_app{A B:List α}{x y:α}:(A++x::B).set A.length y=A++y::B:=by simp
theorem swp2_app{A B C:List α}{x y:α}:swp2 (A++x::B++y::C) A.length (A.length+1+B.length)=A++y::B++x::C:=by
 have h1:(A++x::B++y::C)[A.length]?=some x:=by simp
 have h2:(A++x::B++y::C)[A.length+1+B.length]?=some y:=by
  rw[show A++x::B++y::C=(A++x::B)++y::C by simp,List.getElem?_append_right (by simp;omega)]
  simp[show A.length+1+B.length-(A.length+(B.length+1))=0 by omega]
 unfold swp2
 rw[h1,h2]
 dsimp only
 rw[show A++x::B++y::C=A++x::(B++y::C) by simp,set_app]
 have e:A++y::(B++y::C)=(A++y::B)++y::C:=by simp
 rw[e,show A.length+1+B.length=(A++y::B).length by simp;omega,set_app]
theorem swp2_up{A C:List α}{x y:α}:swp2 (A++x::y::C) A.length (A.length+1)=A++y::x::C:=by
 have:=swp2_app (A:=A) (B:=[]) (C:=C) (x:=x) (y:=y)
 simpa using this
theorem swp2_down{A C:List α}{x y:α}:swp2 (A++x::y::C) (A.length+1) A.length=A++y::x::C:=by
 have h1:(A++x::y::C)[A.length]?=some x:=by simp
 have h2:(A++x::y::C)[A.length+1]?=some y:=by
  rw[List.getElem?_append_right (by omega)];simp
 have h3:=swp2_up (A:=A) (C:=C) (x:=x) (y:=y)
 unfold swp2 at h3 ⊢
 rw[h1,h2]at h3 ⊢
 dsimp only at h3 ⊢
 rw[List.set_comm _ _ (by omega)];exact h3
theorem swap_range{A X B Y C:List α}(h:X.length=Y.length){k:Nat}(hk:k<X.length):
  swp2 (A++(Y.take k++X.drop k)++B++(X.take k++Y.drop k)++C) (A.length+k) (A.length+X.length+B.length+k)=A++(Y.take (k+1)++X.drop (k+1))++B++(X.take (k+1)++Y.drop (k+1))++C:=by
 obtain⟨x,hx⟩: ∃x,X[k]?=some x:=vJ hk
 obtain⟨y,hy⟩: ∃y,Y[k]?=some y:=vJ (by omega)
 have dx:X.drop k=x::X.drop (k+1):=by
  obtain⟨h1,h2⟩:=List.getElem?_eq_some_iff.1 hx
  rw[List.drop_eq_getElem_cons h1,h2]
 have dy:Y.drop k=y::Y.drop (k+1):=by
  obtain⟨h1,h2⟩:=List.getElem?_eq_some_iff.1 hy
  rw[List.drop_eq_getElem_cons h1,h2]
 have tx:X.take (k+1)=X.take k++[x]:=by rw[List.take_add_one,hx];rfl
 have ty:Y.take (k+1)=Y.take k++[y]:=by rw[List.take_add_one,hy];rfl
 rw[dx,dy,tx,ty]
 have l1:(A++Y.take k).length=A.length+k:=by simp;omega
 have l2:(A++Y.take k).length+1+(X.drop (k+1)++B++X.take k).length=A.length+X.length+B.length+k:=by simp;omega
 have:=swp2_app (A:=A++Y.take k) (B:=X.drop (k+1)++B++X.take k) (C:=Y.drop (k+1)++C) (x:=x) (y:=y)
 rw[l2,l1]at this
 have e1:A++(Y.take k++x::X.drop (k+1))++B++(X.take k++y::Y.drop (k+1))++C=A++Y.take k++x::(X.drop (k+1)++B++X.take k)++y::(Y.drop (k+1)++C):=by simp
 have e2:A++(Y.take k++[y]++X.drop (k+1))++B++(X.take k++[x]++Y.drop (k+1))++C=A++Y.take k++y::(X.drop (k+1)++B++X.take k)++x::(Y.drop (k+1)++C):=by simp
 rw[e1,e2];exact this
end
def Left(X Y:List Ey):Prop:= ∀x∈X,∀y∈Y,x.2.at_=y.2.at_→x.1<y.1
theorem left_lt{X Y:List Ey}(h:Left X Y){x y:Ey}(hx:x∈X)(hy:y∈Y):(y.2.at_<x.2.at_↔qA y x)∧(¬ y.2.at_<x.2.at_↔qA x y):=by
 have:=h x hx y hy
 unfold qA
 constructor<;>constructor<;>intro h<;>omega
structure MergedE(X Y S:List Ey):Prop where
 perm:S.Perm (X++Y)
 up:S.Pairwise qA
theorem merged_two{A B C D S T:List Ey}(h1:MergedE A C S)(h2:MergedE B D T)(hx: ∀x∈A++C,∀y∈B++D,qA x y):MergedE (A++B) (C++D) (S++T):=by
 refine⟨?_,List.pairwise_append.2 ⟨h1.up,h2.up,fun x hx' y hy=>hx x (h1.perm.mem_iff.1 hx') y (h2.perm.mem_iff.1 hy)⟩⟩
 have:=h1.perm.append h2.perm
 refine this.trans ?_
 rw[show A++C++(B++D)=A++(C++B)++D by simp,show A++B++(C++D)=A++(B++C)++D by simp]
 exact((List.perm_append_comm (l₁:=C) (l₂:=B)).append_left A).append_right D
theorem left_sub{X Y X' Y':List Ey}(h:Left X Y)(hx: ∀x∈X',x∈X)(hy: ∀y∈Y',y∈Y):Left X' Y':=fun x h1 y h2=>h x (hx x h1) y (hy y h2)
theorem merged_one_left{x:Ey}{Y1 Y2:List Ey}(h:(Y1++Y2).Pairwise qA)(h1: ∀y∈Y1,qA y x)(h2: ∀y∈Y2,qA x y):MergedE [x] (Y1++Y2) (Y1++x::Y2):=by
 refine⟨?_,?_⟩
 ·exact List.perm_middle
 ·rw[List.pairwise_append]at h ⊢
  refine⟨h.1,List.pairwise_cons.2 ⟨h2,h.2.1⟩,fun y hy z hz=>?_⟩
  rcases List.mem_cons.1 hz with rfl|hz
  ·exact h1 y hy
  ·exact h.2.2 y hy z hz
theorem merged_one_right{x:Ey}{Y1 Y2:List Ey}(h:(Y1++Y2).Pairwise qA)(h1: ∀y∈Y1,qA y x)(h2: ∀y∈Y2,qA x y):MergedE (Y1++Y2) [x] (Y1++x::Y2):=by
 have:=merged_one_left h h1 h2
 exact⟨this.perm.trans List.perm_append_comm,this.up⟩
theorem cross{A B C D:List Ey}(hX:(A++B).Pairwise qA)(hY:(C++D).Pairwise qA)(h1: ∀x∈A,∀y∈D,qA x y)(h2: ∀x∈C,∀y∈B,qA x y): ∀x∈A++C,∀y∈B++D,qA x y:=by
 rw[List.pairwise_append]at hX hY
 intro x hx y hy
 rcases List.mem_append.1 hx with hx|hx
 ·rcases List.mem_append.1 hy with hy|hy
  ·exact hX.2.2 x hx y hy
  ·exact h1 x hx y hy
 ·rcases List.mem_append.1 hy with hy|hy
  ·exact h2 x hx y hy
  ·exact hY.2.2 x hx y hy
theorem border{A D:List Ey}{a d:Ey}(hA:(A++[a]).Pairwise qA)(hD:(d::D).Pairwise qA)(h:qA a d): ∀x∈A++[a],∀y∈d::D,qA x y:=by
 rw[List.pairwise_append]at hA
 rw[List.pairwise_cons]at hD
 have h1: ∀x∈A++[a],qA x d:=fun x hx=>by
  rcases List.mem_append.1 hx with hx|hx
  ·exact ltE_trans (hA.2.2 x hx a (by simp)) h
  ·rw[List.mem_singleton]at hx;subst hx;exact h
 intro x hx y hy
 rcases List.mem_cons.1 hy with rfl|hy
 ·exact h1 x hx
 ·exact ltE_trans (h1 x hx) (hD.1 y hy)
theorem left_one{X Y:List Ey}{x y:Ey}(h:Left X Y)(hx:x∈X)(hy:y∈Y):(¬ y.2.at_<x.2.at_→qA x y)∧(y.2.at_<x.2.at_→qA y x):=⟨(left_lt h hx hy).2.1,(left_lt h hx hy).1.1⟩
theorem take_get{α:Type}{l:List α}{k:Nat}{c:α}(h:l[k]?=some c):l.take (k+1)=l.take k++[c]:=by rw[List.take_add_one,h];rfl
theorem take_lt{X:List Ey}(hX:X.Pairwise qA){k:Nat}{c z:Ey}(hc:X[k]?=some c)(h:qA c z): ∀x∈X.take (k+1),qA x z:=by
 rw[take_get hc]
 have hp:=hX.take (i:=k+1)
 rw[take_get hc,List.pairwise_append]at hp
 intro x hx
 rcases List.mem_append.1 hx with hx|hx
 ·exact ltE_trans (hp.2.2 x hx c (by simp)) h
 ·rw[List.mem_singleton]at hx;subst hx;exact h
theorem drop_lt{X:List Ey}(hX:X.Pairwise qA){k:Nat}{c z:Ey}(hc:X[k]?=some c)(h:qA z c): ∀x∈X.drop k,qA z x:=by
 have hp:=hX.drop (i:=k)
 rw[drop_get hc]at hp ⊢
 rw[List.pairwise_cons]at hp
 intro x hx
 rcases List.mem_cons.1 hx with rfl|hx
 ·exact h
 ·exact ltE_trans h (hp.1 x hx)
theorem merged_left_at{x:Ey}{Y:List Ey}(hY:Y.Pairwise qA)(hL:Left [x] Y){k:Nat}(hk:k≤Y.length)(h1: ∀y,0<k→Y[k-1]?=some y→y.2.at_<x.2.at_)(h2: ∀y,Y[k]?=some y→¬ y.2.at_<x.2.at_):MergedE [x] Y (Y.take k++x::Y.drop k):=by
 have:=merged_one_left (x:=x) (Y1:=Y.take k) (Y2:=Y.drop k) (by rw[List.take_append_drop];exact hY) ?_ ?_
 ·rwa [List.take_append_drop]at this
 ·cases k with
  |zero=>simp
  |succ k=>
   obtain⟨c,hc⟩: ∃c,Y[k]?=some c:=vJ (by omega)
   have:=(left_one hL (by simp:x∈[x]) (List.mem_of_getElem? hc)).2 (h1 c (by omega) hc)
   exact take_lt hY hc this
 ·by_cases hkl:k<Y.length
  ·obtain⟨c,hc⟩: ∃c,Y[k]?=some c:=vJ hkl
   have:=(left_one hL (by simp:x∈[x]) (List.mem_of_getElem? hc)).1 (h2 c hc)
   exact drop_lt hY hc this
  ·rw[List.drop_of_length_le (by omega)];simp
theorem merged_right_at{y:Ey}{X:List Ey}(hX:X.Pairwise qA)(hL:Left X [y]){k:Nat}(hk:k≤X.length)(h1: ∀x,0<k→X[k-1]?=some x→¬ y.2.at_<x.2.at_)(h2: ∀x,X[k]?=some x→y.2.at_<x.2.at_):MergedE X [y] (X.take k++y::X.drop k):=by
 have:=merged_one_right (x:=y) (Y1:=X.take k) (Y2:=X.drop k) (by rw[List.take_append_drop];exact hX) ?_ ?_
 ·rwa [List.take_append_drop]at this
 ·cases k with
  |zero=>simp
  |succ k=>
   obtain⟨c,hc⟩: ∃c,X[k]?=some c:=vJ (by omega)
   have:=(left_one hL (List.mem_of_getElem? hc) (by simp:y∈[y])).1 (h1 c (by omega) hc)
   exact take_lt hX hc this
 ·by_cases hkl:k<X.length
  ·obtain⟨c,hc⟩: ∃c,X[k]?=some c:=vJ hkl
   have:=(left_one hL (List.mem_of_getElem? hc) (by simp:y∈[y])).2 (h2 c hc)
   exact drop_lt hX hc this
  ·rw[List.drop_of_length_le (by omega)];simp
theorem sym_parts{X Y:List Ey}(hX:X.Pairwise qA)(hY:Y.Pairwise qA)(hL:Left X Y){s e:Nat}(hs:s≤X.length)(he:e≤Y.length)
  (h1: ∀x y,0<s→X[s-1]?=some x→Y[e]?=some y→¬ y.2.at_<x.2.at_) (h2: ∀x y,0<e→X[s]?=some x→Y[e-1]?=some y→y.2.at_<x.2.at_):
  ∀x∈X.take s++Y.take e,∀y∈X.drop s++Y.drop e,qA x y:=by
 refine cross (by rw[List.take_append_drop];exact hX) (by rw[List.take_append_drop];exact hY) ?_ ?_
 ·intro x hx y hy
  cases s with
  |zero=>simp at hx
  |succ s=>
   by_cases hel:e<Y.length
   ·obtain⟨c,hc⟩: ∃c,X[s]?=some c:=vJ (by omega)
    obtain⟨d,hd⟩: ∃d,Y[e]?=some d:=vJ hel
    have hlt:=(left_one hL (List.mem_of_getElem? hc) (List.mem_of_getElem? hd)).1 (h1 c d (by omega) hc hd)
    have h3:=take_lt hX hc hlt x hx
    exact drop_lt hY hd h3 y hy
   ·rw[List.drop_of_length_le (by omega)]at hy;simp at hy
 ·intro x hx y hy
  cases e with
  |zero=>simp at hx
  |succ e=>
   by_cases hsl:s<X.length
   ·obtain⟨c,hc⟩: ∃c,X[s]?=some c:=vJ hsl
    obtain⟨d,hd⟩: ∃d,Y[e]?=some d:=vJ (by omega)
    have hlt:=(left_one hL (List.mem_of_getElem? hc) (List.mem_of_getElem? hd)).2 (h2 c d (by omega) hc hd)
    have h3:=take_lt hY hd hlt x hx
    exact drop_lt hX hc h3 y hy
   ·rw[List.drop_of_length_le (by omega)]at hy;simp at hy
theorem ins_up{S1 S2:List Ey}{x:Ey}(h:(S1++S2).Pairwise qA)(h1: ∀y∈S1,qA y x)(h2: ∀y∈S2,qA x y):(S1++x::S2).Pairwise qA:=(merged_one_left h h1 h2).up
abbrev Bk:=List Ey×List Ey
def GoodB(p:Bk):Prop:=p.2.Perm p.1∧p.2.Pairwise qA
def pH(B:List Bk):List Ey:=(B.map (·.1)).flatten
def uB(B:List Bk):List Ey:=(B.map (·.2)).flatten
structure BlocksE(n:Nat)(B:List Bk):Prop where
 good: ∀p∈B,GoodB p
 size: ∀p∈B,p.1.length=n
theorem fsts_app(A B:List Bk):pH (A++B)=pH A++pH B:=by unfold pH;simp
theorem snds_app(A B:List Bk):uB (A++B)=uB A++uB B:=by unfold uB;simp
theorem fsts_cons(p:Bk)(B:List Bk):pH (p::B)=p.1++pH B:=rfl
theorem snds_cons(p:Bk)(B:List Bk):uB (p::B)=p.2++uB B:=rfl
theorem BlocksE.app{n:Nat}{A B:List Bk}(h:BlocksE n A)(k:BlocksE n B):BlocksE n (A++B):=
 ⟨fun p hp=>(List.mem_append.1 hp).elim (h.good p) (k.good p),fun p hp=>(List.mem_append.1 hp).elim (h.size p) (k.size p)⟩
theorem BlocksE.one{n:Nat}{p:Bk}(h:GoodB p)(k:p.1.length=n):BlocksE n [p]:=
 ⟨fun q hq=>by rw[List.mem_singleton]at hq;subst hq;exact h,fun q hq=>by rw[List.mem_singleton]at hq;subst hq;exact k⟩
theorem BlocksE.nil{n:Nat}:BlocksE n []:=⟨by simp,by simp⟩
theorem fsts_len{n:Nat}: ∀{B:List Bk},BlocksE n B→(pH B).length=B.length*n
 |[],_=>by simp[pH]
 |p::B,h=>by
  rw[fsts_cons,List.length_append,h.size p (by simp),fsts_len (B:=B) ⟨fun q hq=>h.good q (by simp[hq]),fun q hq=>h.size q (by simp[hq])⟩,List.length_cons,Nat.add_mul];omega
theorem snds_perm: ∀{B:List Bk},(∀p∈B,GoodB p)→(uB B).Perm (pH B)
 |[],_=>List.Perm.refl _
 |p::B,h=>by
  rw[fsts_cons,snds_cons]
  exact((h p (by simp)).1).append (snds_perm fun q hq=>h q (by simp[hq]))
theorem snds_len{n:Nat}{B:List Bk}(h:BlocksE n B):(uB B).length=B.length*n:=by
 rw[(snds_perm h.good).length_eq,fsts_len h]
theorem left_of{X Y:List Ey}{A B C:List Ey}{X0 Y0 E:List Ey}(hE:E.Pairwise fun x y=>x.1<y.1)(he:E=A++X0++B++Y0++C)(hX:X.Perm X0)(hY:Y.Perm Y0):Left X Y:=by
 intro x hx y hy _
 rw[he]at hE
 have h1:=(List.pairwise_append.1 hE).1
 have h2:=(List.pairwise_append.1 h1).2.2
 exact h2 x (by simp[hX.mem_iff.1 hx]) y (hY.mem_iff.1 hy)
theorem merged_good{X Y:Bk}{S:List Ey}(hX:GoodB X)(hY:GoodB Y)(h:MergedE X.2 Y.2 S):GoodB (X.1++Y.1,S):=
 ⟨h.perm.trans (hX.1.append hY.1),h.up⟩
theorem sorted_is{E S:List Ey}(hE:E.Pairwise fun x y=>x.1<y.1)(hp:S.Perm E)(hu:S.Pairwise qA):S=sortE E:=
 same_up ltE_asymm hu (sortE_up hE) fun y=>by rw[hp.mem_iff,sortE_mem]
theorem cmpI_lt{a b:Int}:wQ a b<0↔a<b:=by
 unfold wQ
 by_cases h1:a<b
 ·rw[if_pos h1];omega
 ·rw[if_neg h1];split<;>omega
abbrev entC(e:Ey):List AV:=dedC e.2
abbrev entF':AV:=.fn (.func 224) [] []
theorem qK{l:List Ey}{k:Nat}{x:Ey}(h:l[k]?=some x):(l.map entC)[k]?=some (entC x):=by rw[List.getElem?_map,h];rfl
theorem swp2_map{L:List Ey}{p q:Nat}{x y:Ey}(h1:L[p]?=some x)(h2:L[q]?=some y):((L.map entC).set p (entC y)).set q (entC x)=(swp2 L p q).map entC:=by
 unfold swp2;rw[h1,h2];simp[List.map_set]
theorem less_c(x y:Ey)(σ:List Ent):SCall prog 224 [.agg (entC x),.agg (entC y)] σ (Is (.int .i64 (wQ x.2.at_ y.2.at_)) σ):=by
 refine zZ func224 rfl (by simp) ?_
 repeat' first|(apply yQ;exact zD;rfl;rfl;refine zL ?_;exact cmpI_c _ _ _)|(refine xV ?_;and_intros<;>first|exact nl|intros)|fail
 refine zW .nil zG zJ ?_
 rfl
theorem swapRange_c(A X B Y C:List Ey)(pa pb n:Nat)(hpa:A.length=pa)(hn:X.length=n)(hn2:Y.length=n)(hpb:pa+n+B.length=pb)(hl:(A++X++B++Y++C).length≤100000)(v:Value)(σ:List Ent):
  SCall prog 297 [.slv v,.int .i64 pa,.int .i64 pb,.int .i64 n,entF'] (.row v 35 9 ((A++X++B++Y++C).map entC)::σ) (fun r τ=>r=.tup []∧τ=.row v 35 9 ((A++Y++B++X++C).map entC)::σ):=by
 refine zZ func297 rfl (by simp) ?_
 refine uZ ?_;and_intros<;>first|exact nl|intros
 refine zU (fun(k:Nat)=>(⟨[(0,.slv v),(1,.int .i64 pa),(2,.int .i64 pb),(3,.int .i64 n),(10,.int .i64 k)],.row v 35 9 ((A++(Y.take k++X.drop k)++B++(X.take k++Y.drop k)++C).map entC)::σ,[],Tryz.f297.ntmps⟩:St)) (fun k=>k≤n) (fun k=>n-k) 0 (Nat.zero_le _) (St.le_of zC yY) ?_
 intro k hI
 by_cases hk:k<n
 ·have hst:=swap_range (A:=A) (B:=B) (C:=C) (X:=X) (Y:=Y) (by omega) (k:=k) (by omega)
  rw[hpa,hn,hpb]at hst
  obtain⟨L,hL⟩: ∃L,A++(Y.take k++X.drop k)++B++(X.take k++Y.drop k)++C=L:=⟨_,rfl⟩
  have hLl:L.length=pa+n+B.length+n+C.length:=by rw[←hL];simp;omega
  have hLb:L.length≤100000:=by simp at hl;omega
  rw[hL]at hst ⊢
  obtain⟨x,hx⟩: ∃x,L[pa+k]?=some x:=vJ (by omega)
  obtain⟨y,hy⟩: ∃y,L[pb+k]?=some y:=vJ (by omega)
  have hgx:=qK hx
  have hgy:=qK hy
  have hz1:(pa:Int)+(k:Int)=((pa+k:Nat):Int):=by omega
  have hz2:(pb:Int)+(k:Int)=((pb+k:Nat):Int):=by omega
  have hw:=swp2_map hx hy
  rw[hst]at hw
  have hlm:(L.map entC).length=L.length:=List.length_map _
  clear hst hL hl
  refine ex_rowV (L:=L.map entC) (.head _) (fun e=>by rw[List.map_eq_nil_iff]at e;subst e;cases hx) ?_
  rintro g cap rfl
  rw[hlm]
  refine yW ?_;intros
  refine yB (fun _=>False) [13,19,21] 22 rfl (by kernel_rfl) rfl ?_
  simp only[List.take_succ_cons,List.take_zero,List.drop_succ_cons,List.drop_zero]
  repeat' first|(refine zgd ?_;first|(apply xH;rfl;rfl;(apply g_loadAgg;rfl;decide;rfl;(exact .k0 yP (by assumption) rfl rfl)))|(apply drs_do;rfl;rfl;(focus (apply vB;rfl;rfl;rfl;rfl;rfl;rfl;rotate_left;exact qJ;(first|assumption|omega|(simp only[List.length_map];omega))));exact zks))|(refine zge ?_;(apply yE;rfl;rfl;focus (apply vB;rfl;rfl;rfl;rfl;rfl;rfl;rotate_left;exact qJ;(first|assumption|omega|(simp only[List.length_map];omega)|(simp only[List.length_set,List.length_map];omega)))))|(refine zB ?_;intros)|(apply zvI;exact zD;rfl;intro σ' hl;(apply g_indexRaw;rfl;rfl;rfl;(first|assumption|rfl);(first|assumption|omega)))|(refine xB ?_;intros)|refine vX rfl rfl rfl ?_ ?_|fail
  all_goals
   refine⟨k+1,hk,by omega,?_⟩
   rw[←hw]
   exact(St.le_of zC zJ)
 ·have e:k=n:=by omega
  subst e
  rw[List.take_of_length_le (by omega),List.drop_of_length_le (by omega),List.take_of_length_le (by omega),List.drop_of_length_le (by omega),List.append_nil,List.append_nil]
  refine uZ ?_;and_intros<;>first|exact nl|intros
  refine zS (σ3:=.row v 35 9 ((A++Y++B++X++C).map entC)::σ) .nil zG zJ ?_
  exact zY ⟨rfl,rfl⟩
end Go.Proofs.YtaoaafdommlhcaaGreat
