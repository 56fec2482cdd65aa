/- Parts of the proof that belong together: Hj Hk Hl Hm Su. -/
import Derived.Test.YtaoaafdommlhcaaGreatHA07
import Derived.Test.YtaoaafdommlhcaaGreatHA16
import Derived.Test.YtaoaafdommlhcaaGreatHA27
import Derived.Test.YtaoaafdommlhcaaGreatHA29
import Derived.Ground.Names2Prog
import Derived.Shelf.Slices.CompactI
import Derived.Test.YtaoaafdommlhcaaGreatProg
set_option maxRecDepth 10000
set_option maxHeartbeats 32000000
set_option linter.unusedSimpArgs false
set_option linter.unusedVariables false
set_option autoImplicit false
open Go.Proofs.Tryz
namespace Go.Proofs.YtaoaafdommlhcaaGreat
open Go.WideMaps
def fZ:Flt:=⟨0,0,0,0,0⟩
def soonF(x f:Flt):Bool:=decide (f=fZ)||decide (orI [wQ x.hour f.hour,wQ f.index x.index]<0)
def leastL(l:List Flt):Flt:=l.foldl (fun f x=>if soonF x f=true then x else f) fZ
theorem leastL_take{l:List Flt}{k:Nat}{x:Flt}(h:l[k]?=some x):leastL (l.take (k+1))=if soonF x (leastL (l.take k))=true then x else leastL (l.take k):=by
 unfold leastL
 rw[List.take_add_one,h]
 simp
theorem fZ_iff(g:Flt):decide (g=fZ)=((g.kind==0)&&((g.hour==0)&&((g.index==0)&&((g.litres==0)&&((g.limit==0)&&true))))):=by
 obtain⟨a,b,c,d,e⟩:=g
 rw[Bool.eq_iff_iff,decide_eq_true_eq]
 simp[fZ]
theorem leastF_c(d:Dis)(out:List Ord')(hO:OutOk d out)(b1 b2:Nat)(σ:List Ent):
  SCall prog 63 [.fn (.func 125) [] [.ptr b2 0,.ptr b1 0]] (.cells b2 [ords out] 36::.cells b1 (disC d) 31::σ) (Is (fltV (leastL (lateL d out))) (.cells b2 [ords out] 36::.cells b1 (disC d) 31::σ)):=by
 refine zZ func63 rfl (by simp) ?_
 have hY:=late1_c d out hO b1 b2
 generalize lateL d out=F at hY ⊢
 clear hO
 refine yW ?_;intros
 rename Nat=>bf;revert bf
 intro bf
 refine pY rfl (zX (by kernel_rfl)) ?_
 intro D l0 fn
 show SCall _ _ _ (Ent.loop _ _ _ _ ?ee ?nn ?ps ?asg ?body _::_) _
 obtain⟨Lp,hL⟩: ∃L,L=Ent.loop l0 .ready none fn ?ee ?nn ?ps ?asg ?body D:=⟨_,rfl⟩
 rw[←hL]
 refine SCall.mono (hY l0 _ (fun k τ'=>τ'=Lp::.obj D (.deferred (some []))::.cells bf (fltC (leastL (F.take k))) 73::.cells b2 [ords out] 36::.cells b1 (disC d) 31::σ) (fun _=>False) ?_ ?_ rfl) ?_
 ·rintro k τ' rfl
  simp
 ·rintro k x τ' hx rfl
  obtain⟨f,hf,rfl⟩: ∃f,F[k]?=some f∧x=[fltV f]:=by
   rw[List.getElem?_map]at hx
   cases hc:F[k]? with
   |none=>rw[hc]at hx;cases hx
   |some c=>rw[hc]at hx;cases hx;exact⟨c,rfl,rfl⟩
  rw[leastL_take hf]
  generalize leastL (F.take k)=g
  clear hY hx hf
  rw[hL]
  refine SRound.sub ?_
  refine sround yP rfl (by decide) ?_
  refine yW ?_;intros
  rename Nat=>bx;revert bx
  intro bx
  refine wH (fun e=>e=.cells bf (fltC g) 73∨e=.cells bx (fltC f) 73) [] rfl rfl ?_
  repeat' first|(refine zB ?_;intros)|(apply zvI;exact zD;rfl;intro σ' hl;first|((exact zQ rfl rfl (zX (by kernel_rfl)) (cmpI_c _ _ _)))|((exact zQ rfl rfl (zX (by kernel_rfl)) (firstT_c [wQ f.hour g.hour,wQ g.index f.index] (by simp) _)))|((exact vF (xT rfl rfl (by decide) rfl rfl zck))))|(refine xB ?_;intros)|(refine yV ?_ ?_<;>(intro z;cases z with|_ h)<;>intro hp)|fail
  ·have hs:soonF f g=true:=by unfold soonF;rw[fZ_iff,hp];rfl
   rw[hs,show (if (true=true)then f else g)=f from rfl]
   subst hL
   exact⟨_,.cons _ (List.Sublist.refl _),.inl ⟨rfl,rfl⟩⟩
  ·have hs:soonF f g=true:=by unfold soonF;rw[h,Bool.or_true]
   rw[hs,show (if (true=true)then f else g)=f from rfl]
   subst hL
   exact⟨_,.cons _ (List.Sublist.refl _),.inl ⟨rfl,rfl⟩⟩
  ·rename_i h1 hp1
   have hs:soonF f g=false:=by unfold soonF;rw[fZ_iff,hp1,h];rfl
   rw[hs,show (if (false=true)then f else g)=g from rfl]
   subst hL
   exact⟨_,.cons _ (List.Sublist.refl _),.inl ⟨rfl,rfl⟩⟩
 ·rintro r τ' (rfl|hF)
  ·rw[List.length_map,List.take_length]
   rw[hL]
   refine RangeEnd.done .here ?_
   clear hY
   refine yW ?_;intros
   refine zS (σ3:=.cells b2 [ords out] 36::.cells b1 (disC d) 31::σ) zmr zG zJ ?_
   exact zY .mk
  ·exact hF.elim
open Go.Shelf Go.Sort Go.RowKit Go.WideMaps
theorem nodup_lenA{α:Type}[DecidableEq α]: ∀{l m:List α},l.Nodup→(∀x∈l,x∈m)→l.length≤m.length
 |[],m,_,_=>Nat.zero_le _
 |a::l,m,hn,hs=>by
  obtain⟨h1,h2⟩:=List.nodup_cons.1 hn
  have ha:a∈m:=hs a (by simp)
  have h3:l.length≤(m.erase a).length:=nodup_lenA h2 fun x hx=>by
   have hxa:x≠a:=fun e=>h1 (e▸hx)
   exact(List.mem_erase_of_ne hxa).2 (hs x (by simp[hx]))
  rw[List.length_erase_of_mem ha]at h3
  have:=List.length_pos_of_mem ha
  rw[List.length_cons];omega
theorem ordsB_of{d:Dis}: ∀{l:List Ord'} {p:Option Ord'},(∀o∈l,kL d o=true)→(l.Pairwise fun a b=>pF (yF a) (yF b)=true)→(∀q,p=some q→ ∀o∈l,pF (yF q) (yF o)=true)→ordsB d p l=true
 |[],p,_,_,_=>by cases p<;>rfl
 |o::l,p,h1,h2,h3=>by
  obtain⟨k1,k2⟩:=List.pairwise_cons.1 h2
  rw[ordsB_cons,h1 o (by simp),ordsB_of (p:=some o) (fun x hx=>h1 x (by simp[hx])) k2 (fun q hq x hx=>by cases hq;exact k1 x hx)]
  cases p with
  |none=>rfl
  |some q=>
   have:=h3 q rfl o (by simp)
   rw[←lexI_lt]at this
   dsimp only
   rw[this];rfl
theorem sumC_some{C:List Clm}{k:List KL}{x:KL}(h:qF C k=some x): ∃c∈C,k=K2 c.farm c.hour:=
 sumC_key (P:=fun k=> ∃c∈C,k=K2 c.farm c.hour) (fun c hc=>⟨c,hc,rfl⟩) (fun k x h=>by cases h) k x h
theorem sumC_val: ∀(C:List Clm) (f:BkF) (k:List KL),zV (C.foldl (fun f c=>vY f (K2 c.farm c.hour) c.litres) f) k=zV f k+zF (fun c=>if K2 c.farm c.hour=k then c.litres else 0) C
 |[],f,k=>by simp[zF]
 |c::C,f,k=>by
  rw[List.foldl_cons,sumC_val C,wD,zF]
  by_cases h:k=K2 c.farm c.hour
  ·rw[if_pos h,if_pos h.symm];omega
  ·rw[if_neg h,if_neg (fun e=>h e.symm)];omega
theorem outC_len(d:Dis)(C:List Clm):(tL d C).length≤C.length:=by
 have hn:=pair_nodup (outs_up d.hours.toNat d.F.length (qF C))
 have h1:((tL d C).map fun o=>K2 o.index o.hour).Nodup:=by
  unfold List.Nodup
  rw[List.pairwise_map]
  refine(outs_up d.hours.toNat d.F.length (qF C)).imp fun {a b} h e=>?_
  obtain⟨e1,e2⟩:=K2_inj.1 e
  simp[outK,pF,e1,e2]at h
 have h2:=nodup_lenA h1 (m:=C.map fun c=>K2 c.farm c.hour) fun k hk=>by
  obtain⟨o,ho,rfl⟩:=List.mem_map.1 hk
  obtain⟨h,a,_,_,hs,rfl⟩:=outs_mem.1 ho
  obtain⟨x,hx⟩:=Option.isSome_iff_exists.1 hs
  obtain⟨c,hc,e⟩:=sumC_some hx
  exact List.mem_map.2 ⟨c,hc,e.symm⟩
 simpa using h2
theorem sumC_pos{C:List Clm}(h: ∀c∈C,1≤c.litres∧c.litres≤1073741824){c:Clm}(hc:c∈C):c.litres≤zV (qF C) (K2 c.farm c.hour):=by
 unfold qF
 rw[sumC_val]
 have h1:=qH (f:=fun x:Clm=>if K2 x.farm x.hour=K2 c.farm c.hour then x.litres else 0) (l:=C) (fun x hx=>by
  have:=h x hx
  split<;>omega) c hc
 simp only[if_true]at h1
 simp only[zV]
 omega
theorem outC_ok{d:Dis}(hd:yZ d=0){C:List Clm}(hC:ClmsOk d C)(h:pN d C=0):OutOk d (tL d C):=by
 unfold pN at h
 by_cases h1:1024<(d.R.length:Int)*d.hours
 ·rw[if_pos h1]at h;cases h
 rw[if_neg h1]at h
 have h2:(tL d C).any bigO=false:=by
  cases hb:(tL d C).any bigO with
  |false=>rfl
  |true=>rw[hb]at h;cases h
 have hlen:=outC_len d C
 have hcl:=hC.len
 have hout: ∀o∈tL d C,o.outlet=true:=fun o ho=>by
  obtain⟨h,a,_,_,hs,rfl⟩:=outs_mem.1 ho
  rfl
 have hone: ∀c∈C,1≤c.litres∧c.litres≤1073741824:=fun c hc=>by
  exact(hC.ok c hc).lt
 have hall: ∀o∈tL d C,kL d o=true:=fun o ho=>by
  have hbig:=List.any_eq_false.1 h2 o ho
  obtain⟨h,a,hh,ha,hs,rfl⟩:=outs_mem.1 ho
  obtain⟨x,hx⟩:=Option.isSome_iff_exists.1 hs
  obtain⟨c,hc,e⟩:=sumC_some hx
  have hp:=sumC_pos hone hc
  rw[←e]at hp
  have h5:=hone c hc
  unfold bigO uA at hbig
  dsimp only at hbig
  simp only[decide_eq_true_eq]at hbig
  unfold kL uA
  simp only[Bool.and_eq_true,decide_eq_true_eq,if_true]
  refine⟨⟨⟨⟨⟨?_,?_⟩,?_⟩,?_⟩,?_⟩,?_⟩<;>omega
 have hup:(tL d C).Pairwise fun a b=>pF (yF a) (yF b)=true:=by
  refine(outs_up d.hours.toNat d.F.length (qF C)).imp_of_mem fun {a b} ha hb h=>?_
  have e1:=hout a ha
  have e2:=hout b hb
  simp only[outK,pF]at h
  simp only[yF,pF,e1,e2,if_true]
  exact h
 have hB:=ordsB_of (p:=none) hall hup (fun q hq=>by cases hq)
 refine⟨?_,hout⟩
 unfold narrowO
 have hc0:tA d (tL d C)=0:=by
  unfold tA
  rw[if_neg (fun h=>h hd),if_neg (by omega),if_pos hB]
 rw[if_neg (fun h=>h1 h.2),hc0]
theorem plan_fit{d:Dis}(hd:yZ d=0): ∀{l:List Pl} {f:BkF} {acc L:List Ord'},(∀p∈l,p.2<d.hours.toNat)→planS d l f acc=some L→ ∀o∈L,o∈acc∨ ∃p∈l,∃x,d.R[p.1]?=some x∧0≤o.hour∧o.hour<d.hours∧o.index=p.1∧(0≤o.litres∧o.litres≤1073741824)∧o.outlet=false
 |[],f,acc,L,_,h,o,ho=>by
  unfold planS at h
  cases h
  exact .inl ho
 |p::l,f,acc,L,hp,h,o,ho=>by
  have hp2: ∀q∈l,q.2<d.hours.toNat:=fun q hq=>hp q (by simp[hq])
  unfold planS at h
  split at h
  ·rcases plan_fit hd hp2 h o ho with h1|⟨q,hq,hx⟩
   ·exact .inl h1
   ·exact .inr ⟨q,by simp[hq],hx⟩
  ·split at h
   ·rename_i x hx
    split at h
    ·rename_i v hv
     split at h
     ·cases h
     ·rename_i hge
      rcases plan_fit hd hp2 h o ho with h1|⟨q,hq,hx⟩
      ·rcases List.mem_append.1 h1 with h1|h1
       ·exact .inl h1
       ·rw[List.mem_singleton]at h1
        subst h1
        have hok:=RchOk.of (yA (zP hd).2 hx)
        have:=ikF_le hok hv
        have:=hok.dl
        have:=hp p (by simp)
        exact .inr ⟨p,by simp,x,hx,by dsimp only;omega,by dsimp only;omega,rfl,by dsimp only;omega,rfl⟩
      ·exact .inr ⟨q,by simp[hq],hx⟩
    ·cases h
   ·cases h
theorem plan_ord{d:Dis}{out L:List Ord'}(hO:OutOk d out)(h:planO d out=some L): ∀o∈L,OrdFit o:=fun o ho=>by
 obtain⟨hd,_,hb,_⟩:=narrow_ok hO.nar
 have hH:=xF (zP hd).2
 have hF:=(yC (zP hd).1).2.1
 have hR:=(yC (zP hd).1).1
 rcases plan_fit hd (fun p hp=>(mem_pls.1 hp).2) h o ho with h1|⟨p,hp,x,hx,h2,h3,h4,h5,h6⟩
 ·have h2:=ords_each hb o h1
  unfold kL at h2
  rw[hO.out o h1,if_pos rfl]at h2
  simp only[Bool.and_eq_true,decide_eq_true_eq]at h2
  unfold OrdFit
  omega
 ·have:=(mem_pls.1 hp).1
  unfold OrdFit
  omega
noncomputable def yH (d:Dis) (C:List Clm):List Ord'×Flt×Int:=
 if pN d C≠0 then ([],fZ,pN d C)else match planO d (tL d C) with
  |none=>([],leastL (lateL d (tL d C)),0)
  |some L=>if 4096<L.length then ([],fZ,2)else match brokL d (xA yF L) with
   |[]=>(xA yF L,fZ,0)
   |f::_=>([],f,0)
open Go.Shelf Go.Sort Go.RowKit Go.WideMaps
theorem solve_c(d:Dis)(hd:yZ d=0)(C:List Clm)(hC:ClmsOk d C)(σ:List Ent):
  SCall prog 21 [disV d,clms C] σ (Is (.tup [ords (yH d C).1,fltV (yH d C).2.1,.int .i64 (yH d C).2.2]) σ):=by
 refine zZ func21 rfl (by simp) ?_
 have ca:=fun σ=>asked_c d hd C hC σ
 unfold yH
 by_cases h0:pN d C≠0
 ·rw[if_pos h0]
  rw[if_neg h0]at ca
  generalize pN d C=e at h0 ca ⊢
  clear hC hd
  repeat' first|(apply yQ;exact zD;rfl;rfl;refine zL ?_;exact ca _)|(refine xV ?_;and_intros<;>first|exact nl|intros)|fail
  rename Nat=>b6;revert b6;rename Nat=>b5;revert b5;rename Nat=>b4;revert b4;rename Nat=>bd;revert bd
  intro bd b4 b5 b6
  refine yB (fun x=>x=.cells b5 (fltC fZ) 73∨x=.cells b6 [.int .i64 e] 40) [2,3] 4 rfl (by kernel_rfl) rfl ?_
  simp only[List.take_succ_cons,List.take_zero,List.drop_succ_cons,List.drop_zero]
  refine uZ ?_;and_intros<;>first|exact nl|intros
  all_goals
   refine zS (σ3:=σ) .nil zG zJ ?_
   exact xK (sz:=4) (.tup (.here (.same (.same .nil))) .nil) (zY .mk)
 rw[if_neg h0]
 have h0':pN d C=0:=by omega
 rw[if_pos h0',h0']at ca
 have hO:=outC_ok hd hC h0'
 have cp:=fun σ=>plan_c d (tL d C) hO σ
 have cl:=fun b1 b2 σ=>leastF_c d (tL d C) hO b1 b2 σ
 have hfit:=fun L=>plan_ord (L:=L) hO
 have hinj:=fun L=>plan_inj (L:=L) hO
 clear h0 h0' hC hO
 generalize tL d C=out at ca cp cl hfit hinj ⊢
 unfold PlanRes at cp
 cases hpl:planO d out with
 |none=>
  dsimp only
  have cp2: ∀σ,SCall prog 62 [disV d,ords out] σ (Is (.tup [ords [],.bool false,.int .i64 0]) σ):=fun σ=>(cp σ).mono fun r τ ⟨h,e⟩=>by
   subst e
   rcases h with⟨_,rfl⟩|⟨L,hL,_⟩
   ·exact .mk
   ·rw[hpl]at hL;cases hL
  clear cp hfit hinj hpl hd
  repeat' first|(refine xD (.call {callee:=.value (.func 64),args:=_,argTypes:=_}) ?_;refine zK rfl rfl rfl (zQ rfl rfl (zX (by kernel_rfl)) (late_c d out _)) ?_;rintro _ _ ⟨l1,l2,rfl,rfl⟩)|(refine xD (.call {callee:=.value (.func 63),args:=_,argTypes:=_}) ?_;refine zK rfl rfl rfl (zQ rfl rfl (zX (by kernel_rfl)) (cl _ _ _)) ?_;rintro _ _ ⟨⟩)|(refine yX ?_;intros)|(apply yQ;exact zD;rfl;rfl;refine zL ?_;first|exact ca _|exact cp2 _)|(refine yV ?_ ?_<;>(intro z;cases z with|_ h)<;>intro hp)|exact nl|fail
  all_goals
   refine zS (σ3:=σ) .nil zG zJ ?_
   exact xK (sz:=4) (.tup (.here (.same (.same .nil))) .nil) (zY .mk)
 |some L=>
  dsimp only
  have hfit:=hfit L hpl
  have hinj:=hinj L hpl
  by_cases h4:4096<L.length
  ·rw[if_pos h4]
   have cp2: ∀σ,SCall prog 62 [disV d,ords out] σ (Is (.tup [ords [],.bool false,.int .i64 2]) σ):=fun σ=>(cp σ).mono fun r τ ⟨h,e⟩=>by
    subst e
    rcases h with⟨h,_⟩|⟨L',hL,⟨_,rfl⟩|⟨h5,_⟩⟩
    ·rw[hpl]at h;cases h
    ·exact .mk
    ·rw[hpl]at hL;cases hL;omega
   clear cp hfit hinj hpl hd cl
   repeat' first|(apply yQ;exact zD;rfl;rfl;refine zL ?_;first|exact ca _|exact cp2 _)|(refine xV ?_;and_intros<;>first|exact nl|intros)|fail
   rename Nat=>b6;revert b6;rename Nat=>b5;revert b5;rename Nat=>b4;revert b4;rename Nat=>bd;revert bd
   intro bd b4 b5 b6
   refine yB (fun x=>x=.cells b5 (fltC fZ) 73∨x=.cells b6 [.int .i64 2] 40) [2,3] 4 rfl (by kernel_rfl) rfl ?_
   simp only[List.take_succ_cons,List.take_zero,List.drop_succ_cons,List.drop_zero]
   refine uZ ?_;and_intros<;>first|exact nl|intros
   all_goals
    refine zS (σ3:=σ) .nil zG zJ ?_
    exact xK (sz:=4) (.tup (.here (.same (.same .nil))) .nil) (zY .mk)
  ·rw[if_neg h4]
   have cp2: ∀σ,SCall prog 62 [disV d,ords out] σ (Is (.tup [ords (xA yF L),.bool true,.int .i64 0]) σ):=fun σ=>(cp σ).mono fun r τ ⟨h,e⟩=>by
    subst e
    rcases h with⟨h,_⟩|⟨L',hL,⟨h5,_⟩|⟨_,S,h1,h2,rfl⟩⟩
    ·rw[hpl]at h;cases h
    ·rw[hpl]at hL;cases hL;omega
    ·rw[hpl]at hL;cases hL
     rw[sortK_is (n:=3) (fun _=>rfl) hinj h1 h2]
     exact .mk
   have hSl:(xA yF L).length≤4096:=by rw[(uL L).length_eq];omega
   have hSf: ∀o∈xA yF L,OrdFit o:=fun o ho=>hfit o ((uL L).mem_iff.1 ho)
   clear cp hfit hinj hpl h4 cl
   generalize xA yF L=S at cp2 hSl hSf ⊢
   have hY:=fun b1 b2=>broken1_c d hd S hSl hSf b1 b2
   clear hd hSf
   have cb:=fun σ=>broken_c d S σ
   repeat' first|(refine xD (.call {callee:=.value (.func 65),args:=_,argTypes:=_}) ?_;refine zK rfl rfl rfl (zQ rfl rfl (zX (by kernel_rfl)) (cb _)) ?_;rintro _ _ ⟨o1,o2,rfl,rfl⟩)|(refine yX ?_;intros)|(apply yQ;exact zD;rfl;rfl;refine zL ?_;first|exact ca _|exact cp2 _)|(refine yV ?_ ?_<;>(intro z;cases z with|_ h)<;>intro hp)|exact nl|fail
   rename Nat=>o2;revert o2;rename Nat=>o1;revert o1;rename Nat=>b6;revert b6;rename Nat=>b5;revert b5;rename Nat=>b4;revert b4;rename Nat=>bd;revert bd
   intro bd b4 b5 b6 o1 o2
   clear ca cp2 cb
   have hY:=hY o1 o2
   refine yS (s':=⟨[(2,.ptr bd 0),(4,.ptr b4 0),(5,.ptr b5 0),(6,.ptr b6 0),(39,.fn (.func 126) [] [.ptr o2 0,.ptr o1 0])],.cells o2 [ords S] 36::.cells o1 (disC d) 31::.cells b6 [.int .i64 0] 40::.cells b5 (fltC fZ) 73::.cells b4 [ords S] 36::.cells bd (disC d) 31::σ,[],Tryz.f21.ntmps⟩) (St.le_of zC yY) ?_
   generalize brokL d S=F at hY ⊢
   refine pY rfl (zX (by kernel_rfl)) ?_
   intro D l0 fn
   show SCall _ _ _ (Ent.loop _ _ _ _ ?ee ?nn ?ps ?asg ?body _::_) _
   obtain⟨Lp,hL⟩: ∃L,L=Ent.loop l0 .ready none fn ?ee ?nn ?ps ?asg ?body D:=⟨_,rfl⟩
   obtain⟨L2,hL2⟩: ∃L2,L2=Ent.loop l0 .done (some .ret) fn ?ee ?nn ?ps ?asg ?body D:=⟨_,rfl⟩
   rw[←hL]
   refine SCall.mono (hY l0 _ (fun k τ=>k=0∧τ=Lp::.obj D (.deferred (some []))::.cells o2 [ords S] 36::.cells o1 (disC d) 31::.cells b6 [.int .i64 0] 40::.cells b5 (fltC fZ) 73::.cells b4 [ords S] 36::.cells bd (disC d) 31::σ) (fun τ=> ∃f F',F=f::F'∧τ=L2::.obj D (.deferred (some []))::.cells o2 [ords S] 36::.cells o1 (disC d) 31::.cells b6 [.int .i64 0] 40::.cells b5 (fltC f) 73::.cells b4 [cA (.slice none 0 0)] 36::.cells bd (disC d) 31::σ) ?_ ?_ ⟨rfl,rfl⟩) ?_
   ·rintro k τ ⟨_,rfl⟩
    simp
   ·rintro k x τ hx ⟨rfl,rfl⟩
    obtain⟨f,F',rfl,rfl⟩: ∃f F',F=f::F'∧x=[fltV f]:=by
     cases F with
     |nil=>cases hx
     |cons f F'=>cases hx;exact⟨f,F',rfl,rfl⟩
    clear hY hx
    rw[hL]
    refine SRound.sub ?_
    refine sround yP rfl (by decide) ?_
    refine yW ?_;intros
    rename Nat=>b9;revert b9
    intro b9
    refine wH (fun e=>e=.cells b9 (fltC f) 73) [1,2,3] rfl rfl ?_
    refine uZ ?_;and_intros<;>first|exact nl|intros
    all_goals
     subst hL hL2
     exact⟨_,.cons _ (List.Sublist.refl _),.inr ⟨rfl,f,F',rfl,rfl⟩⟩
   ·rintro r τ (⟨hk,rfl⟩|⟨f,F',rfl,rfl⟩)
    ·rw[List.length_map]at hk
     obtain rfl:=List.length_eq_zero_iff.1 hk
     rw[hL]
     refine RangeEnd.done .here ?_
     clear hY
     refine yW ?_;intros
     refine wH (fun e=>e=.cells b4 [ords S] 36∨e=.cells b5 (fltC fZ) 73) [2,3,4] rfl rfl ?_
     refine uZ ?_;and_intros<;>first|exact nl|intros
     all_goals
      refine zS (σ3:=σ) zmr zG zJ ?_
      exact zY .mk
    ·rw[hL2]
     refine RangeEnd.jump .here ?_
     clear hY
     refine yW ?_;intros
     refine zS (σ3:=σ) zmr zG zJ ?_
     exact xK (sz:=4) (.tup (.here (.same (.same .nil))) .nil) (zY .mk)
open Go.Shelf Go.Sort Go.RowKit Go.WideMaps
noncomputable def xU (d:Dis) (C:List Clm):Bool:=decide ((yH d C).2.2=0)&&decide ((yH d C).2.1=fZ)
theorem make_c(d:Dis)(hd:yZ d=0)(C:List Clm)(hC:ClmsOk d C)(σ:List Ent):
  SCall prog 7 [disV d,clms C] σ (Is (.tup [ords (yH d C).1,.bool (xU d C),.int .i64 (yH d C).2.2]) σ):=by
 refine zZ func7 rfl (by simp) ?_
 have cs:=fun σ=>solve_c d hd C hC σ
 unfold xU
 clear hd hC
 generalize (yH d C).1=L at cs ⊢
 generalize (yH d C).2.1=f at cs ⊢
 generalize (yH d C).2.2=e at cs ⊢
 rw[fZ_iff]
 by_cases he:e=0
 ·rw[decide_eq_true he,Bool.true_and]
  subst he
  repeat' first|(apply yQ;exact zD;rfl;rfl;refine zL ?_;exact cs _)|(refine xV ?_;and_intros<;>first|exact nl|intros)|cases ‹BV _ _›|fail
  all_goals
   refine zS (σ3:=σ) .nil zG zJ ?_
   exact zY .mk
 ·rw[decide_eq_false he,Bool.false_and]
  repeat' first|(apply yQ;exact zD;rfl;rfl;refine zL ?_;exact cs _)|(refine xV ?_;and_intros<;>first|exact nl|intros)|fail
  all_goals
   refine zS (σ3:=σ) .nil zG zJ ?_
   exact zY .mk
theorem limit_c(d:Dis)(hd:yZ d=0)(C:List Clm)(hC:ClmsOk d C)(σ:List Ent):
  SCall prog 27 [disV d,clms C] σ (Is (.tup [fltV (yH d C).2.1,.bool (!decide ((yH d C).2.1=fZ)),.int .i64 (yH d C).2.2]) σ):=by
 refine zZ func27 rfl (by simp) ?_
 have cs:=fun σ=>solve_c d hd C hC σ
 clear hd hC
 generalize (yH d C).1=L at cs ⊢
 generalize (yH d C).2.1=f at cs ⊢
 generalize (yH d C).2.2=e at cs ⊢
 rw[fZ_iff]
 repeat' first|(apply yQ;exact zD;rfl;rfl;refine zL ?_;exact cs _)|(refine xV ?_;and_intros<;>first|exact nl|intros)|fail
 rename Nat=>b4;revert b4;rename Nat=>bd;revert bd
 intro bd b4
 refine wH (fun x=>x=.cells b4 (fltC f) 73) [5] rfl rfl ?_
 refine yW ?_;intros
 all_goals
  refine zS (σ3:=σ) .nil zG zJ ?_
  exact zY .mk
open Go.Shelf Go.Sort
def Tryz.laysCompact_ren:Go.Shelf.Ren:=⟨fun|20=>70|n=>n,fun|22=>45|3=>3|4=>4|0=>0|n=>n,fun|n=>n⟩
theorem Tryz.laysCompact:Go.Proofs.Lays2.n20 prog Tryz.laysCompact_ren:={
 mixed:=by kernel_rfl
 f20:=func70.trans (congrArg some (by kernel_rfl))
 t0:=Tryz.underlying0
 a0:=Tryz.isAgg0
 z0:=Tryz.sizeOf0
 v0:=Tryz.zeroValue0
 t3:=Tryz.underlying3
 a3:=Tryz.isAgg3
 z3:=Tryz.sizeOf3
 v3:=Tryz.zeroValue3
 t4:=Tryz.underlying4
 a4:=Tryz.isAgg4
 z4:=Tryz.sizeOf4
 v4:=Tryz.zeroValue4
 t22:=Tryz.underlying45
 a22:=Tryz.isAgg45
 z22:=Tryz.sizeOf45
 v22:=Tryz.zeroValue45
 i3:=by kernel_rfl}
theorem compact_le(l:List Int):(Lib.compact l).length≤l.length:=by
 unfold Lib.compact Lib.compactUpTo
 rw[List.length_map]
 have:=List.length_filter_le (Lib.keeps l.toArray) (List.range l.length)
 simpa using this
theorem ownsRow_cut{w:World}{base g cap n k:Nat}{e:TypeId}{xs:List Value}(h:w.ownsRow base e 1 (.slice (some ⟨g,0,none⟩) n cap) n xs)(hk:k≤n):w.ownsRow base e 1 (.slice (some ⟨g,0,none⟩) k cap) k (xs.take k):=by
 rcases h.2 with⟨h0,_⟩|⟨g',cap',cur,hv,hbg,hg,hnc,hcm,hcs,htk⟩
 ·cases h0
 ·cases hv
  have hl:=h.1
  refine⟨by rw[List.length_take];omega,.inr ⟨g,cap,cur,rfl,hbg,hg,by omega,hcm,hcs,?_⟩⟩
  rw[←htk,List.take_take];congr 1;omega
theorem grow_none(w:World):grow w #[]=w:=by cases w;simp[grow]
theorem compact_c{e:TypeId}{l:List Int}{v:Value}{σ:List Ent}{F:Value→List Ent}(hu: ∀v',Upd σ (.row v e 1 (l.map fun n=>[AV.int .i64 n])) (.row v' e 1 ((Lib.compact l).map fun n=>[AV.int .i64 n])) (F v'))(hb:l.length<4611686018427387904):
  SCall prog 70 [.slv v] σ (Grew F):=by
 refine⟨fun X M w vs hg ha=>?_⟩
 simp only[VRels,VRel]at ha
 obtain⟨u,r,hvs,⟨rfl,hsl⟩,rfl⟩:=ha
 obtain rfl:vs=#[u]:=by cases vs;simp at hvs;rw[hvs]
 obtain⟨xs,hown,hrel,hs⟩:=hg.ent _ (hu u).mem
 have hxs:=rel_ints hrel
 subst hxs
 simp only[List.length_map]at hown
 rcases hown.2 with⟨rfl,h0⟩|⟨g,cap,cur,rfl,hb0,hgg,hnc,hcm,hcs,htk⟩
 ·have h1:l=[]:=List.eq_nil_of_length_eq_zero h0
  subst h1
  have hs0:Lib.compact ([]:List Int)=[]:=rfl
  rw[hs0]at hu
  refine Calls.mono (Any.slices_Compact_int_empty Tryz.laysCompact none 0 w) ?_
  rintro e' w' ⟨rfl,rfl⟩
  exact⟨M,_,.slv nilS,_,Mem.le_refl M,hg.upd (hu nilS) rfl rfl rfl (fun _ _ _=>rfl) (hg.ent _ (hu nilS).mem) (.inl rfl),⟨rfl,rfl⟩,rfl,.mk _⟩
 ·have hH:=holds_of_blockI (ss:=l) hgg (by simpa using htk)
  have hle:=compact_le l
  refine Calls.mono (Any.slices_Compact_int Tryz.laysCompact g 0 cap l w hH (by omega) hnc) ?_
  rintro e' w' ⟨rfl,n,rfl⟩
  have hgr:=grownBy_sortedI (w:=w) (g:=g) (n:=n) (os:=#[]) (Lib.compact l++List.replicate (l.length-(Lib.compact l).length) 0).toArray
  have hrow:=ownsRow_sortedI (base:=0) (n:=n) (os:=#[]) (ts:=Lib.compact l++List.replicate (l.length-(Lib.compact l).length) 0) (by simp;omega) (Nat.zero_le g) hgg hnc hcm hcs
  rw[grow_none]at hgr hrow
  have hrow2:=ownsRow_cut hrow hle
  have etk:((Lib.compact l++List.replicate (l.length-(Lib.compact l).length) 0).map (Value.int .i64)).take (Lib.compact l).length=(Lib.compact l).map (Value.int .i64):=by
   rw[←List.map_take,List.take_left]
  rw[etk]at hrow2
  refine⟨M,_,.slv _,_,Mem.le_refl M,?_,⟨rfl,rfl⟩,rfl,.mk _⟩
  refine hg.upd (hu _) hgr.os hgr.tape hgr.output (fun k hk hne=>hgr.block k hk (fun e=>hne (by simp[Ent.block,Value.ownBlock];exact(Option.some.inj e).symm))) ?_ (.inl rfl)
  refine⟨_,?_,ints_rel (Lib.compact l),by intro x hx;obtain⟨_,_,rfl⟩:=List.mem_map.1 hx;rfl⟩
  simp only[List.length_map]
  exact hrow2
def uG(l:List Int):List Int:=Lib.compact (uH l)
theorem sortI_perm'(l:List Int):(uH l).Perm l:=List.mergeSort_perm _ _
theorem sortI_le(l:List Int):(uH l).Pairwise (· ≤ ·):=by
 have h:=List.pairwise_mergeSort (le:=fun x y:Int=>decide (x≤y)) (fun a b c h1 h2=>by simp only[decide_eq_true_eq]at *;omega) (fun a b=>by simp only[Bool.or_eq_true,decide_eq_true_eq];omega) l
 exact h.imp (fun h=>by simpa using h)
theorem setOf_sub(l:List Int):(uG l).Sublist (uH l):=by
 unfold uG Lib.compact Lib.compactUpTo
 have h1:=(List.filter_sublist (p:=Lib.keeps (uH l).toArray) (l:=List.range (uH l).length)).map ((uH l).toArray[·]!)
 have h2:=Lib.range_map_get (uH l).toArray
 simp only[List.size_toArray,List.toList_toArray]at h2
 rw[h2]at h1
 exact h1
theorem setOf_mem{l:List Int}{x:Int}:x∈uG l↔x∈l:=by
 constructor
 ·intro h;exact(sortI_perm' l).mem_iff.1 ((setOf_sub l).subset h)
 ·intro h
  have h1:x∈uH l:=(sortI_perm' l).mem_iff.2 h
  obtain⟨j,hj⟩:=List.getElem?_of_mem h1
  have key: ∀(j:Nat) (x:Int),(uH l)[j]?=some x→x∈uG l:=by
   intro j
   induction j with
   |zero=>
    intro x hx
    obtain⟨p1,p2⟩:=List.getElem?_eq_some_iff.1 hx
    unfold uG Lib.compact Lib.compactUpTo
    refine List.mem_map.2 ⟨0,List.mem_filter.2 ⟨List.mem_range.2 p1,by simp[Lib.keeps]⟩,?_⟩
    simp[p1,p2]
   |succ j ih=>
    intro x hx
    obtain⟨p1,p2⟩:=List.getElem?_eq_some_iff.1 hx
    by_cases hk:Lib.keeps (uH l).toArray (j+1)=true
    ·unfold uG Lib.compact Lib.compactUpTo
     refine List.mem_map.2 ⟨j+1,List.mem_filter.2 ⟨List.mem_range.2 p1,hk⟩,?_⟩
     simp[p1,p2]
    ·refine ih x ?_
     have hjl:j<(uH l).length:=by omega
     simp only[Lib.keeps,decide_eq_true_eq,not_or,Nat.add_sub_cancel,ne_eq,Decidable.not_not]at hk
     have h3:=hk.2
     simp[p1,hjl]at h3
     rw[List.getElem?_eq_getElem hjl,←h3,p2]
  exact key j x hj
theorem setOf_up(l:List Int):(uG l).Pairwise (· < ·):=by
 have hs:=sortI_le l
 unfold uG Lib.compact Lib.compactUpTo
 rw[List.pairwise_map]
 refine(List.pairwise_lt_range.filter _).imp_of_mem ?_
 intro a b ha hb hab
 obtain⟨a1,a2⟩:=List.mem_filter.1 ha
 obtain⟨b1,b2⟩:=List.mem_filter.1 hb
 have a1:=List.mem_range.1 a1
 have b1:=List.mem_range.1 b1
 rw[List.pairwise_iff_getElem]at hs
 simp only[Lib.keeps,decide_eq_true_eq]at b2
 have hne:(uH l)[b]≠(uH l)[b-1]:=by
  rcases b2 with e|e
  ·omega
  ·simpa [b1,show b-1<(uH l).length by omega]using e
 have h1:(uH l)[b-1]≤(uH l)[b]:=hs (b-1) b (by omega) b1 (by omega)
 have h2:(uH l)[a]≤(uH l)[b-1]:=by
  by_cases e:a=b-1
  ·subst e;exact Int.le_refl _
  ·exact hs a (b-1) a1 (by omega) (by omega)
 simp[a1,b1]
 omega
theorem setOf_len(l:List Int):(uG l).length≤l.length:=by
 have h1:=compact_le (uH l)
 rwa [sortI_length]at h1
end Go.Proofs.YtaoaafdommlhcaaGreat
