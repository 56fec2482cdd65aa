/- Parts of the proof that belong together: Eh Ei Ej Ek Sae Ga. -/
import Derived.Test.YtaoaafdommlhcaaGreatHA07
import Derived.Test.YtaoaafdommlhcaaGreatHA10
import Derived.Test.YtaoaafdommlhcaaGreatHA11
import Derived.Test.YtaoaafdommlhcaaGreatHA25
set_option maxRecDepth 10000
set_option maxHeartbeats 32000000
set_option linter.unusedSimpArgs false
set_option linter.unusedVariables false
set_option autoImplicit false
open Go.Proofs.Tryz
namespace Go.Proofs.YtaoaafdommlhcaaGreat
theorem xF{d:Dis}(hv:yD d=true):d.hours≤4096:=by
 unfold yD tY at hv
 simp[vS]at hv
 omega
theorem fIdx_is(l:List Int)(g:Nat)(first cap:List AV)(p:Int→Bool)(σ:List Ent)(he:Enters prog g)(hf: ∀(k:Nat) (c:Int),l[k]?=some c→SCall prog g (first++[AV.int .i64 c]++cap) σ (Is (.bool (p c)) σ))(ix:Int)(hix:yG p l 0=ix):
  SCall prog 55 [ints l,.fn (.func g) first cap] σ (Is (.int .i64 ix) σ):=by subst hix;exact fInt_idx l g first cap p σ he hf
def dfE(D:Nat):Ent:=.obj D (.deferred (some []))
theorem marks_of(A:List Ent)(σ:List Ent): ∀ms:List Nat,Marks ms (A++(ms.map dfE++σ)) (A++σ)
 |[]=>.nil
 |D::ms=>by
  have h: ∀A:List Ent,Rem (A++(dfE D::(ms.map dfE++σ))) (dfE D) (A++(ms.map dfE++σ)):=fun A=>by
   induction A with
   |nil=>exact .here
   |cons a A ih=>exact .there ih
  exact .cons (h A) (marks_of A σ ms)
theorem all_c(d:Dis)(l:List Ded)(frm to known:Int)(σ:List Ent):
  SCall prog 20 [disV d,deds l,.int .i64 frm,.int .i64 to,.int .i64 known] σ (Is (.tup [fnds (if allE d l frm to known=0 then allS d l frm to known else []),.int .i64 (allE d l frm to known)]) σ):=by
 refine zZ func20 rfl (by simp) ?_
 have c0:=checkL_c d l
 unfold allE
 by_cases h0:wF xL d l=0
 rotate_left
 ·rw[if_pos h0]
  generalize wF xL d l=e at c0 h0 ⊢
  rw[if_neg h0]
  repeat' first|(apply yQ;exact zD;rfl;rfl;refine zL ?_;exact c0 _)|(refine xV ?_;and_intros<;>first|exact nl|intros)|fail
  all_goals
   refine zS (σ3:=σ) .nil zG zJ ?_
   exact xK (sz:=6) (.tup (.here (.same .nil)) .nil) (zY .mk)
 rw[if_neg (show ¬ wF xL d l≠0 from fun h=>h h0)]
 have c0':=c0
 rw[h0]at c0'
 by_cases h1:frm<0∨to<frm∨d.hours≤to∨known<0∨1048576<known
 ·rw[if_pos h1,if_neg (by decide)]
  clear c0
  by_cases q1:frm<0
  ·repeat' first|(apply yQ;exact zD;rfl;rfl;refine zL ?_;exact c0' _)|(refine xV ?_;and_intros<;>first|exact nl|intros)|fail
   all_goals
    refine zS (σ3:=σ) .nil zG zJ ?_
    exact xK (sz:=6) (.tup (.here (.same .nil)) .nil) (zY .mk)
  by_cases q2:to<frm
  ·repeat' first|(apply yQ;exact zD;rfl;rfl;refine zL ?_;exact c0' _)|(refine xV ?_;and_intros<;>first|exact nl|intros)|fail
   all_goals
    refine zS (σ3:=σ) .nil zG zJ ?_
    exact xK (sz:=6) (.tup (.here (.same .nil)) .nil) (zY .mk)
  by_cases q3:d.hours≤to
  ·repeat' first|(apply yQ;exact zD;rfl;rfl;refine zL ?_;exact c0' _)|(refine xV ?_;and_intros<;>first|exact nl|intros)|fail
   all_goals
    refine zS (σ3:=σ) .nil zG zJ ?_
    exact xK (sz:=6) (.tup (.here (.same .nil)) .nil) (zY .mk)
  by_cases q4:known<0
  ·repeat' first|(apply yQ;exact zD;rfl;rfl;refine zL ?_;exact c0' _)|(refine xV ?_;and_intros<;>first|exact nl|intros)|fail
   all_goals
    refine zS (σ3:=σ) .nil zG zJ ?_
    exact xK (sz:=6) (.tup (.here (.same .nil)) .nil) (zY .mk)
  have q5:1048576<known:=by omega
  repeat' first|(apply yQ;exact zD;rfl;rfl;refine zL ?_;exact c0' _)|(refine xV ?_;and_intros<;>first|exact nl|intros)|fail
  all_goals
   refine zS (σ3:=σ) .nil zG zJ ?_
   exact xK (sz:=6) (.tup (.here (.same .nil)) .nil) (zY .mk)
 rw[if_neg h1]
 clear c0
 obtain⟨N,hN⟩: ∃N:Nat,to-frm+1=N:=⟨(to-frm+1).toNat,by omega⟩
 obtain⟨hd,hdl,_⟩:=kU h0
 obtain⟨hfe,hv⟩:=zP hd
 have hG:=(yC hfe).2.2.2.1
 have hF:=(yC hfe).2.1
 have hR:=(yC hfe).1
 have hH:d.hours≤4096:=xF hv
 have hNl:N≤4096:=by omega
 have hm1:0≤(N:Int)*(d.G.length:Int):=Int.mul_nonneg (by omega) (by omega)
 have hm2:(N:Int)*(d.G.length:Int)≤4096*256:=by
  have:N*d.G.length≤4096*256:=Nat.mul_le_mul hNl hG
  omega
 rw[hN]
 by_cases h2:4096<(N:Int)*d.G.length
 ·rw[if_pos h2,if_neg (by decide)]
  have h2':4096<(to-frm+1)*(d.G.length:Int):=by rw[hN];exact h2
  rw[←hN]at hm1 hm2
  clear hm1
  repeat' first|(apply yQ;exact zD;rfl;rfl;refine zL ?_;exact c0' _)|(refine xV ?_;and_intros<;>first|exact nl|intros)|fail
  all_goals
   refine zS (σ3:=σ) .nil zG zJ ?_
   exact xK (sz:=6) (.tup (.here (.same .nil)) .nil) (zY .mk)
 rw[if_neg h2,if_pos rfl]
 have h2':¬ 4096<(to-frm+1)*(d.G.length:Int):=by rw[hN];exact h2
 have e1:allS d l frm to known=xA fndK (uT d l known frm N):=by unfold allS;rw[hN,Int.toNat_natCast]
 rw[e1]
 have hb1: -1000000≤(to-frm+1)*(d.G.length:Int):=by rw[hN];omega
 clear hm1 hm2 e1
 refine xX 71 6 ?_
 repeat' first|(apply yQ;exact zD;rfl;rfl;refine zL ?_;exact c0' _)|(refine xV ?_;and_intros<;>first|exact nl|intros)|fail
 rename Nat=>b10;revert b10;rename Nat=>bd;revert bd
 intro bd b10
 clear c0' h2' hb1
 have hub: ∀i,i≤N→(uT d l known frm i).length≤3000000:=fun i hi=>by
  have k1:=hoursF_len d l known frm i
  have k2:i*(d.G.length*d.F.length)≤(N*d.G.length)*600:=by
   rw[Nat.mul_assoc]
   exact Nat.mul_le_mul hi (Nat.mul_le_mul_left _ hF)
  have k3:N*d.G.length≤4096:=by omega
  omega
 refine zU (fun(z:Nat×Int×Value×List Nat×List Ent)=>(⟨[(1,deds l),(3,.int .i64 to),(4,.int .i64 known),(5,.ptr bd 0),(10,.ptr b10 0),(12,.int .i64 z.2.1)],.cells b10 [.slv z.2.2.1] 67::.cells bd (disC d) 31::.row z.2.2.1 71 6 ((uT d l known frm z.1).map fndC)::z.2.2.2.2,z.2.2.2.1,Tryz.f20.ntmps⟩:St)) (fun z=>z.1≤N∧z.2.1=frm+z.1∧z.2.2.2.2=z.2.2.2.1.map dfE++σ) (fun z=>N-z.1) (0,frm,nilS,[],σ) (⟨Nat.zero_le _,by simp,rfl⟩) (St.le_of zC yY) ?_
 intro z hI
 obtain⟨i,u,v,ms,τ⟩:=z
 obtain⟨hI1,hI2,hI3⟩:=hI
 dsimp only at hI1 hI2 hI3 ⊢
 by_cases hi:i<N
 rotate_left
 ·obtain rfl:i=N:=by omega
  subst hI3
  have hth:to<u:=by omega
  have hHl:=hub i (Nat.le_refl _)
  clear hub hi
  repeat' first|(refine xD (.call {callee:=.value (.func 58),args:=_,argTypes:=_}) ?_;refine zK rfl rfl rfl (zQ rfl rfl (zX (by kernel_rfl)) (sortFnd_c (Nat.le_trans hHl (by decide)) (fun e=>qJ))) ?_;rintro _ _ ⟨rfl,S,hS1,hS2,rfl⟩)|(refine yX ?_;intros)|(refine yV ?_ ?_<;>(intro z;cases z with|_ h)<;>intro hp)|exact nl|fail
  refine zS (σ3:=.row v 71 6 (S.map fndC)::σ) (marks_of [_,_,_] σ ms) zG zJ ?_
  rw[sortK_is (n:=4) (fun _=>rfl) (hoursF_inj d l known frm i) hS1 hS2]
  exact xS .here (.tup (.here (.same .nil)) .nil) (zY .mk)
 ·have hh:0≤u∧u<d.hours:=by omega
  have hth:u≤to:=by omega
  have cv:=valid_c d hd u
  have co:=open_c d l u known
  have hk:0≤known∧known≤1048576:=by omega
  have hub2: ∀k,(uT d l known frm i++((openL d l u known).take k).map (fndOf d (lawOf d u))).length≤3000000:=fun k=>by
   have k1:=hub (i+1) hi
   rw[hoursF_succ,List.length_append]at k1
   unfold hourF at k1
   rw[←hI2,List.length_map]at k1
   rw[List.length_append,List.length_map,List.length_take]
   omega
  have hsu:uT d l known frm (i+1)=uT d l known frm i++(openL d l u known).map (fndOf d (lawOf d u)):=by rw[hoursF_succ,←hI2];rfl
  have hcl: ∀c∈openL d l u known,∃(a r:Nat) (y:Frm),c.farm=a∧a≤1000∧(d.F.map frmC)[a]?=some (frmC y)∧y.reach=r∧r<d.R.length∧fndOf d (lawOf d u) c=⟨c,findI (fun r=>!mayB (lawOf d u) a r) (pathL d r)⟩:=fun c hc=>by
   obtain⟨k,hk1,rfl,_⟩:=open_mem hc
   obtain⟨r,a,x,e1,e2,_,ha,_⟩:=hold_right h0 hk1
   obtain⟨y,hy⟩:=zH ha
   have hyr:0≤y.reach∧y.reach<d.R.length:=by
    unfold yD at hv
    simp only[Bool.and_eq_true]at hv
    have g:=List.all_eq_true.1 hv.1.1.2 y (List.mem_of_getElem? hy)
    unfold farmB idxB at g
    simp only[Bool.and_eq_true,decide_eq_true_eq]at g
    exact g.1.2
   refine⟨a,y.reach.toNat,y,e2,by omega,by rw[List.getElem?_map,hy];rfl,by omega,by omega,?_⟩
   unfold fndOf vP
   dsimp only
   rw[e2,Int.toNat_natCast,hy,show ((y.reach.toNat:Nat):Int)=y.reach by omega]
  have hpath:=fun r (hr:r<d.R.length)=>path_c d r hd hr
  have how: ∀r,0≤(lawOf d u).ow r∧(lawOf d u).ow r≤1000:=fun r=>by
   have:=law_ow d u d.G.length r
   rw[List.take_length]at this
   have:(lawOf d u).ow r≤d.G.length:=this.2
   unfold lawOf at *
   omega
  have hY:=open1_c d l h0 u known hh hk hH
  clear hub hN h2 h1 hdl hd hv hfe
  generalize uT d l known frm i=A at hub2 hsu ⊢
  generalize openL d l u known=O at hub2 hsu hcl hY
  generalize lawOf d u=S at cv hub2 hsu hcl how
  clear h0
  repeat' first|(refine xD (.call {callee:=.value (.func 52),args:=_,argTypes:=_}) ?_;refine zK rfl rfl rfl (zQ rfl rfl (zX (by kernel_rfl)) (cv _)) ?_;rintro _ _ ⟨b1,b2,b3,n1,n2,n3,rfl,rfl⟩)|(refine xD (.call {callee:=.value (.func 53),args:=_,argTypes:=_}) ?_;refine zK rfl rfl rfl (zQ rfl rfl (zX (by kernel_rfl)) (co _)) ?_;rintro _ _ ⟨o1,o2,o3,o4,rfl,rfl⟩)|(refine yX ?_;intros)|(refine yV ?_ ?_<;>(intro z;cases z with|_ h)<;>intro hp)|exact nl|fail
  rename Nat=>o4;revert o4;rename Nat=>o3;revert o3;rename Nat=>o2;revert o2;rename Nat=>o1;revert o1;rename Nat=>q1;revert q1
  intro q1 o1 o2 o3 o4
  clear cv co
  refine yS (s':=⟨[(1,deds l),(3,.int .i64 to),(4,.int .i64 known),(5,.ptr bd 0),(10,.ptr b10 0),(12,.int .i64 u),(13,.ptr q1 0),(68,.fn (.func 106) [] [.ptr o1 0,.ptr o2 0,.ptr o3 0,.ptr o4 0])],.cells o4 [.int .i64 known] 3::.cells o3 [.int .i64 u] 3::.cells o2 [deds l] 32::.cells o1 (disC d) 31::.cells q1 (lawC b1 b2 b3) 135::.kmap b3 [false,false] (kT S.ea) n3::.kmap b2 [false,false] (kT S.od) n2::.imap b1 (intM S.ow) n1::.cells b10 [.slv v] 67::.cells bd (disC d) 31::.row v 71 6 (A.map fndC)::τ,ms,Tryz.f20.ntmps⟩) (St.le_of zC yY) ?_
  refine pY rfl (zX (by kernel_rfl)) ?_
  intro D l0 fn
  show SCall _ _ _ (Ent.loop _ _ _ _ ?ee ?nn ?ps ?asg ?body _::_) _
  obtain⟨Lp,hL⟩: ∃L,L=Ent.loop l0 .ready none fn ?ee ?nn ?ps ?asg ?body D:=⟨_,rfl⟩
  rw[←hL]
  refine scall_permu (List.Perm.cons Lp (List.perm_middle (a:=Ent.obj D (.deferred (some []))) (l₁:=[_,_,_,_,_,_,_,_,_,_,_]) (l₂:=τ)).symm) ?_
  simp only[List.cons_append,List.nil_append]
  refine SCall.mono (hY o1 o2 o3 o4 l0 _ (fun k τ'=> ∃v,τ'=Lp::.cells o4 [.int .i64 known] 3::.cells o3 [.int .i64 u] 3::.cells o2 [deds l] 32::.cells o1 (disC d) 31::.cells q1 (lawC b1 b2 b3) 135::.kmap b3 [false,false] (kT S.ea) n3::.kmap b2 [false,false] (kT S.od) n2::.imap b1 (intM S.ow) n1::.cells b10 [.slv v] 67::.cells bd (disC d) 31::.row v 71 6 ((A++(O.take k).map (fndOf d S)).map fndC)::.obj D (.deferred (some []))::τ) (fun _=>False) ?_ ?_ ⟨v,by simp⟩) ?_
  ·rintro k τ' ⟨v,rfl⟩
   simp
  ·rintro k x τ' hx ⟨v,rfl⟩
   obtain⟨c,hc,rfl⟩: ∃c,O[k]?=some c∧x=[clmV c]:=by
    rw[List.getElem?_map]at hx
    cases hc:O[k]? with
    |none=>rw[hc]at hx;cases hx
    |some c=>rw[hc]at hx;cases hx;exact⟨c,rfl,rfl⟩
   obtain⟨a,r,y,e1,e2,gy,e3,e4,e5⟩:=hcl c (List.mem_of_getElem? hc)
   have hnx:A++(O.take (k+1)).map (fndOf d S)=A++(O.take k).map (fndOf d S)++[fndOf d S c]:=by
    rw[List.take_add_one,hc];simp
   have hlen:=hub2 k
   rw[hnx,e5]
   have hp:=hpath r e4
   have hfi:=findI_idx (p:=fun r=>!mayB S a r) (l:=pathL d r) (k:=0)
   have hpl: ∀x∈pathL d r,0≤x∧x≤1000:=fun x hx=>by have:=path_le hx;omega
   clear hpath hub2 hcl hsu hY hnx e5 hx hc
   generalize A++(O.take k).map (fndOf d S)=B at hlen ⊢
   have hBl:(B.map fndC).length=B.length:=List.length_map _
   obtain⟨c_r,c_a,c_h,c_n,c_k⟩:=c
   dsimp only at e1
   subst e1
   obtain⟨y1,y2,y3,y4⟩:=y
   dsimp only at e3 gy
   subst e3
   generalize pathL d r=P at hp hfi hpl
   rw[hL]
   refine SRound.sub ?_
   refine sround yP rfl (by decide) ?_
   obtain⟨ix,hix⟩: ∃ix,yG (fun r=>!mayB S a r) P 0=ix:=⟨_,rfl⟩
   obtain⟨fx,hfx⟩: ∃fx,findI (fun r=>!mayB S a r) P=fx:=⟨_,rfl⟩
   rw[hix,hfx]at hfi
   rw[hfx]
   clear hfx
   have hmp:B.map fndC++[fndC ⟨⟨c_r,a,c_h,c_n,c_k⟩,fx⟩]=(B++[(⟨⟨c_r,a,c_h,c_n,c_k⟩,fx⟩:Fnd)]).map fndC:=by simp
   rw[←hmp]
   clear hmp
   refine yW ?_;intros
   rename Nat=>c15;revert c15;rename Nat=>c14;revert c14
   intro c14 c15
   refine wH (fun e=>e=.cells c14 (clmC ⟨c_r,a,c_h,c_n,c_k⟩) 57∨e=.cells bd (disC d) 31) [8] rfl rfl ?_
   rcases hfi with⟨rfl,rfl⟩|⟨j,hjx,hj⟩
   ·repeat' first|(refine zgp (.call {callee:=.value (.func 54),args:=_,argTypes:=_}) ?_;refine yN rfl rfl (zQ rfl rfl (zX (by kernel_rfl)) (hp _)) ?_;rintro _ _ ⟨⟩;refine⟨zks,?_⟩)|(refine xD (.call {callee:=.value (.func 55),args:=_,argTypes:=_}) ?_;refine zK rfl rfl rfl (zQ rfl rfl (zX (by kernel_rfl)) (fIdx_is P _ [] [.ptr q1 0,.ptr c14 0] (fun r=>!mayB S a r) _ (zX (by kernel_rfl)) (fun k r hr=>all1_c S ⟨c_r,a,c_h,c_n,c_k⟩ r (how r) (by dsimp only;omega) (hpl r (List.mem_of_getElem? hr)) yP yP yP yP yP) _ hix)) ?_;rintro _ _ ⟨⟩)|(refine yX ?_;intros)|(refine yV ?_ ?_<;>(intro z;cases z with|_ h)<;>intro hp)|exact nl|fail
    subst hL
    exact⟨_,.cons _ (.cons _ (.cons _ (List.Sublist.refl _))),.inl ⟨rfl,_,rfl⟩⟩
   ·have gj:=wU hj
    rw[Nat.zero_add]at hjx
    subst hjx
    repeat' first|(refine zgp (.call {callee:=.value (.func 54),args:=_,argTypes:=_}) ?_;refine yN rfl rfl (zQ rfl rfl (zX (by kernel_rfl)) (hp _)) ?_;rintro _ _ ⟨⟩;refine⟨zks,?_⟩)|(refine xD (.call {callee:=.value (.func 55),args:=_,argTypes:=_}) ?_;refine zK rfl rfl rfl (zQ rfl rfl (zX (by kernel_rfl)) (fIdx_is P _ [] [.ptr q1 0,.ptr c14 0] (fun r=>!mayB S a r) _ (zX (by kernel_rfl)) (fun k r hr=>all1_c S ⟨c_r,a,c_h,c_n,c_k⟩ r (how r) (by dsimp only;omega) (hpl r (List.mem_of_getElem? hr)) yP yP yP yP yP) _ hix)) ?_;rintro _ _ ⟨⟩)|(refine yX ?_;intros)|(refine yV ?_ ?_<;>(intro z;cases z with|_ h)<;>intro hp)|exact nl|fail
    subst hL
    exact⟨_,.cons _ (.cons _ (.cons _ (List.Sublist.refl _))),.inl ⟨rfl,_,rfl⟩⟩
  ·rintro r τ' (⟨v2,rfl⟩|hF)
   ·rw[List.length_map,List.take_length]
    rw[hL]
    refine RangeEnd.done .here ?_
    rw[←hsu]
    clear hY hpath hcl hub2 how
    refine yW ?_;intros
    exact⟨(i+1,u+1,v2,D::ms,.obj D (.deferred (some []))::τ),⟨hi,by dsimp only;omega,by dsimp only;rw[hI3];rfl⟩,by dsimp only;omega,(St.le_of zC zJ)⟩
   ·exact hF.elim
theorem allE_zero{d:Dis}{l:List Ded}{frm to known:Int}(h:allE d l frm to known=0):wF xL d l=0∧(0≤frm∧frm≤to∧to<d.hours)∧(0≤known∧known≤1048576)∧(to-frm+1)*d.G.length≤4096:=by
 unfold allE at h
 by_cases h0:wF xL d l=0
 ·rw[if_neg (fun h=>h h0)]at h
  by_cases h1:frm<0∨to<frm∨d.hours≤to∨known<0∨1048576<known
  ·rw[if_pos h1]at h;cases h
  ·rw[if_neg h1]at h
   by_cases h2:4096<(to-frm+1)*(d.G.length:Int)
   ·rw[if_pos h2]at h;cases h
   ·exact⟨h0,by omega,by omega,by omega⟩
 ·rw[if_pos h0]at h;exact absurd h h0
theorem allS_len{d:Dis}{l:List Ded}{frm to known:Int}(h:allE d l frm to known=0):(allS d l frm to known).length≤3000000:=by
 obtain⟨h0,h1,h2,h3⟩:=allE_zero h
 obtain⟨hd,_,_⟩:=kU h0
 have hF:=(yC (zP hd).1).2.1
 obtain⟨N,hN⟩: ∃N:Nat,to-frm+1=N:=⟨(to-frm+1).toNat,by omega⟩
 unfold allS
 rw[hN]at h3
 rw[(uL _).length_eq,hN,Int.toNat_natCast]
 have k1:=hoursF_len d l known frm N
 have k2:N*(d.G.length*d.F.length)≤(N*d.G.length)*600:=by
  rw[Nat.mul_assoc]
  exact Nat.mul_le_mul_left _ (Nat.mul_le_mul_left _ hF)
 have k3:N*d.G.length≤4096:=by omega
 omega
def fit1(f:Fnd):Bool:=decide (f.reach<0)
def kK(d:Dis)(l:List Ded)(frm to known:Int):List Clm:=((allS d l frm to known).filter fit1).map (·.c)
def ofE(d:Dis)(l:List Ded)(frm to known:Int):Int:=if allE d l frm to known≠0 then allE d l frm to known else if (4096:Int)<(kK d l frm to known).length then 2 else 0
theorem fnd_get{l:List Fnd}{k:Nat}{x:Fnd}(h:l[k]?=some x):(l.map fndC)[k]?=some (fndC x):=by rw[List.getElem?_map,h];rfl
theorem of_c(d:Dis)(l:List Ded)(frm to known:Int)(σ:List Ent):
  SCall prog 6 [disV d,deds l,.int .i64 frm,.int .i64 to,.int .i64 known] σ (Is (.tup [clms (if ofE d l frm to known=0 then kK d l frm to known else []),.int .i64 (ofE d l frm to known)]) σ):=by
 refine zZ func6 rfl (by simp) ?_
 have ca:=fun σ=>all_c d l frm to known σ
 unfold ofE kK
 by_cases h0:allE d l frm to known=0
 rotate_left
 ·rw[if_pos h0,if_neg h0]
  rw[if_neg h0]at ca
  generalize allE d l frm to known=e at ca h0
  repeat' first|(apply yQ;exact zD;rfl;rfl;refine zL ?_;exact ca _)|(refine xV ?_;and_intros<;>first|exact nl|intros)|fail
  all_goals
   refine zS (σ3:=σ) .nil zG zJ ?_
   exact xK (sz:=5) (.tup (.here (.same .nil)) .nil) (zY .mk)
 rw[if_neg (show ¬ allE d l frm to known≠0 from fun h=>h h0)]
 have hSl:=allS_len h0
 rw[if_pos h0,h0]at ca
 generalize allS d l frm to known=S at ca hSl ⊢
 clear h0
 refine xX 57 5 ?_
 repeat' first|(apply yQ;exact zD;rfl;rfl;refine zL ?_;exact ca _)|(refine xV ?_;and_intros<;>first|exact nl|intros)|fail
 clear ca
 rename Nat=>bd;revert bd
 intro bd
 refine jY (t:=27) rfl (by first|exact(List.length_map _).symm|rfl) (fun hlen=>?_)
 refine zU (fun(z:Nat×Value)=>(⟨[(10,.slv z.2),(27,fnds S),(28,.int .i64 S.length),(29,.int .i64 (z.1:Nat))],.row z.2 57 5 ((((S.take z.1).filter fit1).map (·.c)).map clmC)::σ,[],Tryz.f6.ntmps⟩:St)) (fun z=>z.1≤S.length) (fun z=>S.length-z.1) (0,nilS) (Nat.zero_le _) (St.le_of zC yY) ?_
 intro z hI
 obtain⟨k,v⟩:=z
 dsimp only at hI ⊢
 by_cases hk:k<S.length
 ·obtain⟨x,hx⟩:=zH hk
  have gx:=fnd_get hx
  have hnx:((S.take (k+1)).filter fit1).map (·.c)=((S.take k).filter fit1).map (·.c)++if fit1 x then [x.c]else []:=by
   rw[List.take_add_one,hx]
   simp only[Option.toList_some,List.filter_append,List.map_append]
   congr 1
   rw[List.filter_cons]
   split<;>rfl
  have hBl:(((S.take k).filter fit1).map (·.c)).length≤3000000:=by
   rw[List.length_map]
   have k1:=List.length_filter_le fit1 (S.take k)
   rw[List.length_take]at k1
   omega
  have hun:fit1 x=decide (x.reach<0):=rfl
  rw[hun]at hnx
  clear hx hun
  generalize ((S.take k).filter fit1).map (·.c)=B at hnx hBl ⊢
  have hBm:(B.map clmC).length=B.length:=List.length_map _
  obtain⟨⟨c1,c2,c3,c4,c5⟩,r⟩:=x
  dsimp only at hnx
  by_cases hn:r<0
  ·rw[decide_eq_true hn,if_pos rfl]at hnx
   have hmp:B.map clmC++[clmC ⟨c1,c2,c3,c4,c5⟩]=(B++[(⟨c1,c2,c3,c4,c5⟩:Clm)]).map clmC:=by simp
   refine yW ?_;intros
   rename Value=>v2
   refine⟨(k+1,v2),hk,by dsimp only;omega,?_⟩
   dsimp only
   rw[hnx,←hmp]
   exact(St.le_of zC zJ)
  ·rw[decide_eq_false hn,if_neg (by decide),List.append_nil]at hnx
   refine yW ?_;intros
   exact⟨(k+1,v),hk,by dsimp only;omega,by dsimp only;rw[hnx];exact(St.le_of zC zJ)⟩
 ·obtain rfl:k=S.length:=by omega
  rw[List.take_length]
  have hBm:(((S.filter fit1).map (·.c)).map clmC).length=((S.filter fit1).map (·.c)).length:=List.length_map _
  by_cases h4:(4096:Int)<((S.filter fit1).map (·.c)).length
  ·rw[if_pos h4,if_neg (by decide)]
   refine yW ?_;intros
   refine zS (σ3:=σ) .nil zG zJ ?_
   exact xK (sz:=5) (.tup (.here (.same .nil)) .nil) (zY .mk)
  ·rw[if_neg h4,if_pos rfl]
   refine yW ?_;intros
   refine zS (σ3:=.row v 57 5 (((S.filter fit1).map (·.c)).map clmC)::σ) .nil zG zJ ?_
   exact xS .here (.tup (.here (.same .nil)) .nil) (zY .mk)
structure ClmOk(d:Dis)(c:Clm):Prop where
 rg: ∃(r:Nat) (x:Rgt),c.right=r∧d.G[r]?=some x∧x.kind=1∧x.rank=c.rank
 fm: ∃a:Nat,c.farm=a∧a<d.F.length
 hr:0≤c.hour∧c.hour<d.hours
 lt:1≤c.litres∧c.litres≤1073741824
structure ClmsOk(d:Dis)(C:List Clm):Prop where
 len:C.length≤4096
 ok: ∀c∈C,ClmOk d c
 up:C.Pairwise fun a b=>pF (clmK a) (clmK b)=true
theorem pT{l:List Clm}{k:Nat}{x:Clm}(h:l[k]?=some x):(l.map clmC)[k]?=some (clmC x):=by rw[List.getElem?_map,h];rfl
theorem lex_neg{l m:List Int}(h:pF l m=true):¬ 0≤pV l m:=by
 rw[←lexI_lt]at h
 simp only[decide_eq_true_eq]at h
 omega
theorem clmCheck_c(d:Dis)(hd:yZ d=0)(C:List Clm)(hC:ClmsOk d C)(σ:List Ent):SCall prog 81 [disV d,clms C] σ (Is (.int .i64 0) σ):=by
 refine zZ func81 rfl (by simp) ?_
 have cd:=check_c d
 rw[hd]at cd
 have hl:=hC.len
 have hlm:(C.map clmC).length=C.length:=List.length_map _
 repeat' first|(apply yQ;exact zD;rfl;rfl;refine zL ?_;exact cd _)|(refine xV ?_;and_intros<;>first|exact nl|intros)|fail
 clear cd
 rename Nat=>bd;revert bd
 intro bd
 refine zU (fun(k:Nat)=>(⟨[(1,clms C),(2,.ptr bd 0),(16,clms C),(17,.int .i64 C.length),(18,.int .i64 k)],.cells bd (disC d) 31::σ,[],f81.ntmps⟩:St)) (fun k=>k≤C.length) (fun k=>C.length-k) 0 (Nat.zero_le _) (St.le_of zC yY) ?_
 intro k hI
 by_cases hk:k<C.length
 ·obtain⟨c,hc⟩:=zH hk
  have gc:=pT hc
  obtain⟨⟨r,x,e1,hx,kx,rx⟩,⟨a,e2,ha⟩,⟨h1,h2⟩,h3,h4⟩:=hC.ok c (List.mem_of_getElem? hc)
  have gx:=rgt_get hx
  have hrl:=(List.getElem?_eq_some_iff.1 hx).1
  have hup: ∀(p:Clm) (j:Nat),C[j]?=some p→j<k→¬ 0≤pV (clmK p) (clmK c):=fun p j hp hj=>by
   obtain⟨q1,q2⟩:=List.getElem?_eq_some_iff.1 hp
   obtain⟨q3,q4⟩:=List.getElem?_eq_some_iff.1 hc
   have:=List.pairwise_iff_getElem.1 hC.up j k q1 q3 hj
   rw[q2,q4]at this
   exact lex_neg this
  clear hx hc hC
  by_cases k0:k=0
  ·subst k0
   clear hup
   repeat' first|(refine xV ?_;and_intros<;>first|exact nl|intros)|refine zTd ?_|cases ‹BV _ _›|fail
   ·exfalso;first|(simp at hp;omega)|(rename_i hp;simp at hp;omega)
   ·exact⟨0+1,hk,by omega,(St.le_of zC zJ)⟩
  ·obtain⟨j,rfl⟩: ∃j,k=j+1:=⟨k-1,by omega⟩
   obtain⟨p,hp⟩:=zH (show j<C.length by omega)
   have gp:=pT hp
   have hlx:=hup p j hp (Nat.lt_succ_self _)
   clear hup hp
   have co:=fun σ=>order_c p c σ
   generalize pV (clmK p) (clmK c)=q at hlx co
   have ej:(((j+1:Nat):Int)-1)=(j:Int):=by omega
   repeat' first|(apply zwX;exact zD;rfl;rfl;intro σ' hl;refine zL ?_;exact co _)|(refine xV ?_;and_intros<;>first|exact nl|intros)|refine zTd ?_|cases ‹BV _ _›|fail
   ·exfalso;first|(simp at hp;omega)|(rename_i hp;simp at hp;omega)
   ·exact⟨j+1+1,hk,by omega,(St.le_of zC zJ)⟩
 ·obtain rfl:k=C.length:=by omega
  refine yW ?_;intros
  refine zW .nil zG zJ ?_
  rfl
theorem ofE_zero{d:Dis}{l:List Ded}{frm to known:Int}(h:ofE d l frm to known=0):allE d l frm to known=0∧(kK d l frm to known).length≤4096:=by
 unfold ofE at h
 by_cases h0:allE d l frm to known=0
 ·rw[if_neg (fun h=>h h0)]at h
  by_cases h1:(4096:Int)<(kK d l frm to known).length
  ·rw[if_pos h1]at h;cases h
  ·exact⟨h0,by omega⟩
 ·rw[if_pos h0]at h;exact absurd h h0
theorem hours_nodup(d:Dis)(l:List Ded)(known frm:Int)(n:Nat):(uT d l known frm n).Nodup:=by
 unfold uT
 unfold List.Nodup
 rw[List.pairwise_flatMap]
 have hhour: ∀(i:Nat) (x:Fnd),x∈hourF d l known (frm+i)→x.c.hour=frm+i:=fun i x hx=>by
  unfold hourF at hx
  obtain⟨c,hc,rfl⟩:=List.mem_map.1 hx
  obtain⟨k,_,e,_⟩:=open_mem hc
  rw[e];rfl
 refine⟨fun i _=>?_,?_⟩
 ·unfold hourF openL
  rw[List.pairwise_map,List.pairwise_filterMap]
  refine(holds_up d _).imp fun {a b} hab c hc c' hc' e=>?_
  obtain⟨e1,_⟩:=openH_mem hc
  obtain⟨e2,_⟩:=openH_mem hc'
  have e3:c=c':=congrArg Fnd.c e
  rw[e1,e2]at e3
  injection e3 with q1 q2
  have:holK a=holK b:=by unfold holK;rw[q1,q2]
  rw[this,ltI_irr]at hab
  cases hab
 ·refine List.pairwise_lt_range.imp fun {i j} hij x hx y hy e=>?_
  have q1:=hhour i x hx
  have q2:=hhour j y hy
  rw[e,q2]at q1
  omega
theorem ofL_mem{d:Dis}{l:List Ded}{frm to known:Int}(h:allE d l frm to known=0){c:Clm}(hc:c∈kK d l frm to known):frm≤c.hour∧c.hour≤to∧c∈openL d l c.hour known∧(fndOf d (lawOf d c.hour) c).reach<0:=by
 unfold kK at hc
 obtain⟨f,hf,rfl⟩:=List.mem_map.1 hc
 obtain⟨h1,h2⟩:=List.mem_filter.1 hf
 unfold allS at h1
 have h3:=(uL _).mem_iff.1 h1
 obtain⟨i,hi,e1,e2,e3⟩:=hoursF_mem h3
 obtain⟨_,k1,_,_⟩:=allE_zero h
 rw[e1]
 refine⟨by omega,by omega,e2,?_⟩
 unfold fit1 at h2
 rw[e3]at h2
 simpa using h2
theorem of_ok{d:Dis}{l:List Ded}{frm to known:Int}(h:ofE d l frm to known=0):ClmsOk d (kK d l frm to known):=by
 obtain⟨h0,h1⟩:=ofE_zero h
 obtain⟨hc0,k1,k2,_⟩:=allE_zero h0
 refine⟨h1,fun c hc=>?_,?_⟩
 ·obtain⟨e1,e2,e3,_⟩:=ofL_mem h0 hc
  obtain⟨k,hk,e4,_⟩:=open_mem e3
  obtain⟨r,a,x,q1,q2,q3,q4,q5,q6,q7,q8⟩:=hold_right hc0 hk
  have g1:c.right=k.right:=congrArg Clm.right e4
  have g2:c.farm=k.farm:=congrArg Clm.farm e4
  have g3:c.litres=k.litres:=congrArg Clm.litres e4
  have g4:c.rank=k.rank:=congrArg Clm.rank e4
  exact⟨⟨r,x,by omega,q3,q5.kd,by omega⟩,⟨a,by omega,q4⟩,by omega,by omega⟩
 ·unfold kK
  rw[List.pairwise_map]
  refine List.Pairwise.filter _ ?_
  exact sortK_up (n:=4) (ks:=fndK) (fun _=>rfl) (hoursF_inj d l known frm _) (hours_nodup d l known frm _)
theorem count_later{l:List Ded}{hour known:Int}{p q:List Ded}{x:Ded}(hx:known<x.known)(hl:l=p++q):vL (p++x::q) hour known=vL l hour known:=by
 subst hl
 have hv: ∀n,voidB (p++x::q) known n=voidB (p++q) known n:=fun n=>by
  unfold voidB
  have e:(decide (x.kind=4)&&decide (x.known≤known)&&(n==x.of))=false:=by
   rw[decide_eq_false (show ¬ x.known≤known by omega)];simp
  rw[List.any_append,List.any_append,List.any_cons,e,Bool.false_or]
 have hg: ∀y,goneB (p++x::q) hour known y=goneB (p++q) hour known y:=fun y=>by unfold goneB;rw[hv]
 have hgx:goneB (p++q) hour known x=true:=by unfold goneB;simp[hx]
 have hf:((p++x::q).filter fun y=>!goneB (p++x::q) hour known y)=(p++q).filter fun y=>!goneB (p++q) hour known y:=by
  simp only[hg]
  rw[List.filter_append,List.filter_append,List.filter_cons,hgx]
  simp
 unfold vL
 rw[hf]
theorem of_later{d:Dis}{l l':List Ded}{frm to known:Int}(h: ∀hour,vL l' hour known=vL l hour known)(hc:wF xL d l=0)(hc':wF xL d l'=0):ofE d l' frm to known=ofE d l frm to known∧kK d l' frm to known=kK d l frm to known:=by
 have e1:allE d l' frm to known=allE d l frm to known:=by unfold allE;rw[hc,hc']
 have e2:kK d l' frm to known=kK d l frm to known:=by
  unfold kK allS uT hourF openL
  simp only[h]
 exact⟨by unfold ofE;rw[e1,e2],e2⟩
section
variable {P:Program} {ro:Option Nat} {env:Env} {σ σ':List Ent} {dst:Option Tmp} {ty:TypeId} {pos:String} {after:Array Edge} {guard:Option (Nat×Bool)}
/-- A block of cells, now immutable. -/
theorem Good.shutC{X:Fx}{M:Mem}{b:Nat}{L:List AV}{t:TypeId}{w:World}(h:Good X M σ w)(hr:Rem σ (.cells b L t) σ'): ∃M',M.le M'∧Good X M' σ' w∧CRel M' b 0 L:=by
 obtain⟨a,c,rfl,rfl⟩:=hr.split
 have hme:Ent.cells b L t∈a++Ent.cells b L t::c:=by simp
 obtain⟨cs,hb,hrel⟩:=h.ent _ hme
 have hsub: ∀x∈a++c,x∈a++Ent.cells b L t::c:=fun x hx=>hr.sub.subset hx
 have hno:M b=none∧X.fr b=none:=h.own _ hme b rfl
 have hle:M.le (fun k=>if k=b then some (.cells cs t (0,0))else M k):=fun k o ho=>by
  simp only
  split
  ·rename_i hb';subst hb';rw[hno.1]at ho;cases ho
  ·exact ho
 refine⟨_,hle,⟨h.os,h.tape,h.output,?_,h.frm,?_,fun x hx=>(h.ent x (hsub x hx)).mono hle,?_,(hr.sub.filterMap _).nodup h.nod⟩,?_⟩
 ·intro k o ho
  split at ho
  ·rename_i hb';subst hb';cases ho;exact hb
  ·exact h.mem k o ho
 ·intro k o ho
  split at ho
  ·rename_i hb';subst hb';exact hno.2
  ·exact h.dis k o ho
 ·intro x hx k hb'
  refine⟨?_,(h.own x (hsub x hx) k hb').2⟩
  split
  ·rename_i hbg
   subst hbg
   have hnod:=h.nod
   simp only[List.filterMap_append,List.filterMap_cons,Ent.block,List.nodup_append,List.nodup_cons]at hnod
   rcases List.mem_append.1 hx with hx|hx
   ·exact absurd rfl (hnod.2.2 k (List.mem_filterMap.2 ⟨x,hx,hb'⟩) k (by simp))
   ·exact absurd (List.mem_filterMap.2 ⟨x,hx,hb'⟩) hnod.2.1.1
  ·exact(h.own x (hsub x hx) k hb').1
 ·refine CRel.of_cells (VRels.mono hle _ _ hrel) (fun j v hv=>?_)
  unfold Mem.cell
  simp only[if_true]
  simpa using hv
end
open Go.Shelf Go.Sort Go.RowKit
theorem scall_sealBox{P:Program}{f g:FuncId}{args:List AV}{L:List AV}{T:TypeId}{σ:List Ent}(h:SCall P f args σ (fun r τ=> ∃b,r=.fn (.func g) [] [.ptr b 0]∧τ=.cells b L T::σ)):
  SCall P f args σ (Is (.fn (.func g) [] [.eptr L 0]) σ):=by
 refine⟨fun X M w vs hg ha=>(h.run X M w vs hg ha).mono ?_⟩
 rintro e w' ⟨M',σ',r,v,h1,h2,h3,h4,b,rfl,rfl⟩
 obtain⟨M2,k1,k2,k3⟩:=h2.shutC .here
 refine⟨M2,σ,.fn (.func g) [] [.eptr L 0],v,fun b o hb=>k1 b o (h1 b o hb),k2,?_,h4,.mk⟩
 simp only[VRel,VRels]at h3 ⊢
 obtain⟨vs,ws,rfl,e1,e2⟩:=h3
 refine⟨vs,ws,rfl,e1,?_⟩
 cases hw:ws.toList with
 |nil=>rw[hw]at e2;simp[VRels]at e2
 |cons x l=>
  rw[hw]at e2
  simp only[VRels,VRel,List.cons.injEq]at e2 ⊢
  obtain⟨_,_,⟨rfl,rfl⟩,hx,rfl⟩:=e2
  refine⟨_,_,⟨rfl,rfl⟩,⟨b,0,?_,k3⟩,rfl⟩
  simpa using hx
structure Ord' where
 hour:Int
 index:Int
 litres:Int
 outlet:Bool
 deriving DecidableEq
abbrev ordC(o:Ord'):List AV:=[.int .i64 o.hour,.int .i64 o.index,.int .i64 o.litres,.bool o.outlet]
abbrev ordV(o:Ord'):AV:=.agg (ordC o)
abbrev ords(l:List Ord'):AV:=.dl 4 (l.map ordC)
def ordE(o:Ord'):List Value:=[.int .i64 o.hour,.int .i64 o.index,.int .i64 o.litres,.bool o.outlet]
def yF(o:Ord'):List Int:=[o.hour,if o.outlet then 1 else 0,o.index]
instance:Inhabited Ord':=⟨⟨0,0,0,false⟩⟩
theorem ord_get{l:List Ord'}{k:Nat}{x:Ord'}(h:l[k]?=some x):(l.map ordC)[k]?=some (ordC x):=by rw[List.getElem?_map,h];rfl
theorem ord_rel(M:Mem)(l:List Ord'): ∀vs,VRels M (l.map ordC).flatten vs↔vs=l.flatMap ordE:=by
 induction l with
 |nil=>intro vs;cases vs<;>simp[VRels]
 |cons x l ih=>
  intro vs
  simp only[List.map_cons,List.flatten_cons,List.cons_append,List.nil_append,VRels,VRel,List.flatMap_cons,ordE]
  constructor
  ·rintro⟨v1,r1,rfl,rfl,v2,r2,rfl,rfl,v3,r3,rfl,rfl,v4,r4,rfl,rfl,h⟩
   rw[(ih _).1 h]
  ·rintro rfl
   exact⟨_,_,rfl,rfl,_,_,rfl,rfl,_,_,rfl,rfl,_,_,rfl,rfl,(ih _).2 (by simp[ordE])⟩
theorem key1_c(x:Ord')(σ:List Ent):SCall prog 180 [ordV x] σ (Is (.int .i64 x.hour) σ):=by
 refine zZ func180 rfl (by simp) ?_
 refine yW ?_;intros
 refine zW .nil zG zJ ?_
 rfl
theorem key2_c(x:Ord')(σ:List Ent):SCall prog 181 [ordV x] σ (Is (.int .i64 (if x.outlet then 1 else 0)) σ):=by
 refine zZ func181 rfl (by simp) ?_
 obtain⟨x1,x2,x3,x4⟩:=x
 cases x4
 ·refine yW ?_;intros
  refine zW .nil zG zJ ?_
  rfl
 ·refine yW ?_;intros
  refine zW .nil zG zJ ?_
  rfl
theorem key3_c(x:Ord')(σ:List Ent):SCall prog 182 [ordV x] σ (Is (.int .i64 x.index) σ):=by
 refine zZ func182 rfl (by simp) ?_
 refine yW ?_;intros
 refine zW .nil zG zJ ?_
 rfl
abbrev keysD:List (List AV):=[[.fn (.func 180) [] []],[.fn (.func 181) [] []],[.fn (.func 182) [] []]]
abbrev keysL:List AV:=[.dl 1 keysD]
abbrev cmpFn:AV:=.fn (.func 240) [] [.eptr keysL 0]
theorem by1_c(x y:Ord')(σ:List Ent):SCall prog 240 [ordV x,ordV y,.eptr keysL 0] σ (Is (.int .i64 (pV (yF x) (yF y))) σ):=by
 refine zZ func240 rfl (by simp) ?_
 have c1:=fun o σ=>key1_c o σ
 have c2:=fun o σ=>key2_c o σ
 have c3:=fun o σ=>key3_c o σ
 have e:pV (yF x) (yF y)=orI [wQ x.hour y.hour,wQ (if x.outlet then 1 else 0) (if y.outlet then 1 else 0),wQ x.index y.index]:=rfl
 rw[e]
 obtain⟨L,hL⟩: ∃L,L=[wQ x.hour y.hour,wQ (if x.outlet then 1 else 0) (if y.outlet then 1 else 0),wQ x.index y.index]:=⟨_,rfl⟩
 rw[←hL]
 have hL3:L.length=3:=by subst hL;rfl
 clear e
 refine yW ?_;intros
 rename Nat=>b2;revert b2;rename Nat=>b1;revert b1
 intro b1 b2
 refine zU (fun(k:Nat)=>(⟨[(3,.ptr b1 0),(4,.ptr b2 0),(9,.dl 1 keysD),(10,.int .i64 (keysD.length:Nat)),(11,.int .i64 k)],.cells b2 (ordC y) 95::.cells b1 (ordC x) 95::σ,[],f240.ntmps⟩:St)) (fun k=>k≤3∧orI L=orI (L.drop k)) (fun k=>3-k) 0 (⟨by omega,rfl⟩) (St.le_of zC yY) ?_
 intro k hI
 obtain⟨hI1,hI2⟩:=hI
 have hkl:keysD.length=3:=rfl
 have hk:k=0∨k=1∨k=2∨k=3:=by omega
 rcases hk with rfl|rfl|rfl|rfl
 ·have gk:keysD[0]?=some [.fn (.func 180) [] []]:=rfl
  have hs:orI (List.drop 0 L)=if wQ (x.hour) (y.hour)=0 then orI (List.drop 1 L)else wQ (x.hour) (y.hour):=by subst hL;rfl
  rw[hs]at hI2
  have cc:=fun σ=>cmpI_c (x.hour) (y.hour) σ
  generalize wQ (x.hour) (y.hour)=q at hI2 cc
  clear hs hL
  by_cases hq:q=0
  ·rw[if_pos hq]at hI2
   refine yW ?_;intros
   refine wH (fun e=>e=.cells b1 (ordC x) 95∨e=.cells b2 (ordC y) 95) [2,5,6] rfl rfl ?_
   repeat' first|(refine zgp (.call {callee:=.value (.tmp _),args:=_,argTypes:=_}) ?_;refine yN rfl rfl (zQ rfl rfl (zX (by kernel_rfl)) (c1 _ _)) ?_;rintro _ _ ⟨⟩;refine⟨zks,?_⟩)|(refine zgp (.call {callee:=.value (.func 43),args:=_,argTypes:=_}) ?_;refine yN rfl rfl (zQ rfl rfl (zX (by kernel_rfl)) (cc _)) ?_;rintro _ _ ⟨⟩;refine⟨zks,?_⟩)|(refine yX ?_;intros)|(refine yV ?_ ?_<;>(intro z;cases z with|_ h)<;>intro hp)|exact nl|fail
   exact⟨0+1,⟨by omega,hI2⟩,by omega,(St.le_of zC zJ)⟩
  ·rw[if_neg hq]at hI2
   rw[hI2]
   refine yW ?_;intros
   refine wH (fun e=>e=.cells b1 (ordC x) 95∨e=.cells b2 (ordC y) 95) [2,5,6] rfl rfl ?_
   repeat' first|(refine zgp (.call {callee:=.value (.tmp _),args:=_,argTypes:=_}) ?_;refine yN rfl rfl (zQ rfl rfl (zX (by kernel_rfl)) (c1 _ _)) ?_;rintro _ _ ⟨⟩;refine⟨zks,?_⟩)|(refine zgp (.call {callee:=.value (.func 43),args:=_,argTypes:=_}) ?_;refine yN rfl rfl (zQ rfl rfl (zX (by kernel_rfl)) (cc _)) ?_;rintro _ _ ⟨⟩;refine⟨zks,?_⟩)|(refine yX ?_;intros)|(refine yV ?_ ?_<;>(intro z;cases z with|_ h)<;>intro hp)|exact nl|fail
   refine zW .nil zG zJ ?_
   rfl
 ·have gk:keysD[1]?=some [.fn (.func 181) [] []]:=rfl
  have hs:orI (List.drop 1 L)=if wQ (if x.outlet then 1 else 0) (if y.outlet then 1 else 0)=0 then orI (List.drop 2 L)else wQ (if x.outlet then 1 else 0) (if y.outlet then 1 else 0):=by subst hL;rfl
  rw[hs]at hI2
  have cc:=fun σ=>cmpI_c (if x.outlet then 1 else 0) (if y.outlet then 1 else 0) σ
  generalize wQ (if x.outlet then 1 else 0) (if y.outlet then 1 else 0)=q at hI2 cc
  clear hs hL
  by_cases hq:q=0
  ·rw[if_pos hq]at hI2
   refine yW ?_;intros
   refine wH (fun e=>e=.cells b1 (ordC x) 95∨e=.cells b2 (ordC y) 95) [2,5,6] rfl rfl ?_
   repeat' first|(refine zgp (.call {callee:=.value (.tmp _),args:=_,argTypes:=_}) ?_;refine yN rfl rfl (zQ rfl rfl (zX (by kernel_rfl)) (c2 _ _)) ?_;rintro _ _ ⟨⟩;refine⟨zks,?_⟩)|(refine zgp (.call {callee:=.value (.func 43),args:=_,argTypes:=_}) ?_;refine yN rfl rfl (zQ rfl rfl (zX (by kernel_rfl)) (cc _)) ?_;rintro _ _ ⟨⟩;refine⟨zks,?_⟩)|(refine yX ?_;intros)|(refine yV ?_ ?_<;>(intro z;cases z with|_ h)<;>intro hp)|exact nl|fail
   exact⟨1+1,⟨by omega,hI2⟩,by omega,(St.le_of zC zJ)⟩
  ·rw[if_neg hq]at hI2
   rw[hI2]
   refine yW ?_;intros
   refine wH (fun e=>e=.cells b1 (ordC x) 95∨e=.cells b2 (ordC y) 95) [2,5,6] rfl rfl ?_
   repeat' first|(refine zgp (.call {callee:=.value (.tmp _),args:=_,argTypes:=_}) ?_;refine yN rfl rfl (zQ rfl rfl (zX (by kernel_rfl)) (c2 _ _)) ?_;rintro _ _ ⟨⟩;refine⟨zks,?_⟩)|(refine zgp (.call {callee:=.value (.func 43),args:=_,argTypes:=_}) ?_;refine yN rfl rfl (zQ rfl rfl (zX (by kernel_rfl)) (cc _)) ?_;rintro _ _ ⟨⟩;refine⟨zks,?_⟩)|(refine yX ?_;intros)|(refine yV ?_ ?_<;>(intro z;cases z with|_ h)<;>intro hp)|exact nl|fail
   refine zW .nil zG zJ ?_
   rfl
 ·have gk:keysD[2]?=some [.fn (.func 182) [] []]:=rfl
  have hs:orI (List.drop 2 L)=if wQ (x.index) (y.index)=0 then orI (List.drop 3 L)else wQ (x.index) (y.index):=by subst hL;rfl
  rw[hs]at hI2
  have cc:=fun σ=>cmpI_c (x.index) (y.index) σ
  generalize wQ (x.index) (y.index)=q at hI2 cc
  clear hs hL
  by_cases hq:q=0
  ·rw[if_pos hq]at hI2
   refine yW ?_;intros
   refine wH (fun e=>e=.cells b1 (ordC x) 95∨e=.cells b2 (ordC y) 95) [2,5,6] rfl rfl ?_
   repeat' first|(refine zgp (.call {callee:=.value (.tmp _),args:=_,argTypes:=_}) ?_;refine yN rfl rfl (zQ rfl rfl (zX (by kernel_rfl)) (c3 _ _)) ?_;rintro _ _ ⟨⟩;refine⟨zks,?_⟩)|(refine zgp (.call {callee:=.value (.func 43),args:=_,argTypes:=_}) ?_;refine yN rfl rfl (zQ rfl rfl (zX (by kernel_rfl)) (cc _)) ?_;rintro _ _ ⟨⟩;refine⟨zks,?_⟩)|(refine yX ?_;intros)|(refine yV ?_ ?_<;>(intro z;cases z with|_ h)<;>intro hp)|exact nl|fail
   exact⟨2+1,⟨by omega,hI2⟩,by omega,(St.le_of zC zJ)⟩
  ·rw[if_neg hq]at hI2
   rw[hI2]
   refine yW ?_;intros
   refine wH (fun e=>e=.cells b1 (ordC x) 95∨e=.cells b2 (ordC y) 95) [2,5,6] rfl rfl ?_
   repeat' first|(refine zgp (.call {callee:=.value (.tmp _),args:=_,argTypes:=_}) ?_;refine yN rfl rfl (zQ rfl rfl (zX (by kernel_rfl)) (c3 _ _)) ?_;rintro _ _ ⟨⟩;refine⟨zks,?_⟩)|(refine zgp (.call {callee:=.value (.func 43),args:=_,argTypes:=_}) ?_;refine yN rfl rfl (zQ rfl rfl (zX (by kernel_rfl)) (cc _)) ?_;rintro _ _ ⟨⟩;refine⟨zks,?_⟩)|(refine yX ?_;intros)|(refine yV ?_ ?_<;>(intro z;cases z with|_ h)<;>intro hp)|exact nl|fail
   refine zW .nil zG zJ ?_
   rfl
 ·rw[List.drop_of_length_le (by omega)]at hI2
  rw[hI2]
  refine yW ?_;intros
  refine zW .nil zG zJ ?_
  rfl
theorem by_c(σ:List Ent):SCall prog 179 keysL σ (Is cmpFn σ):=by
 refine scall_sealBox (T:=334) ?_
 refine zZ func179 rfl (by simp) ?_
 refine yW ?_;intros
 rename Nat=>b;revert b
 intro b
 refine zS (σ3:=.cells b keysL 334::σ) .nil zG zJ ?_
 exact zY ⟨b,rfl,rfl⟩
theorem compare_c(σ:List Ent):SCall prog 123 [] σ (Is cmpFn σ):=by
 refine zZ func123 rfl (by simp) ?_
 have c:=fun σ=>by_c σ
 repeat' first|(refine zB ?_;intros)|(apply qX;exact zD;rfl;rfl;exact zlt)|(apply yQ;exact zD;rfl;rfl;refine zL ?_;exact c _)|fail
 refine zW .nil zG zJ ?_
 rfl
end Go.Proofs.YtaoaafdommlhcaaGreat
