/- Parts of the proof that belong together: Jk Jl Ia. -/
import Derived.Test.YtaoaafdommlhcaaGreatHA07
import Derived.Test.YtaoaafdommlhcaaGreatHA34
set_option maxRecDepth 10000
set_option maxHeartbeats 32000000
set_option linter.unusedSimpArgs false
set_option linter.unusedVariables false
set_option autoImplicit false
open Go.Proofs.Tryz
namespace Go.Proofs.YtaoaafdommlhcaaGreat
open Go.WideMaps
theorem wthn_c(n lo hi:Int)(σ:List Ent):SCall prog 33 [.int .i64 n,.int .i64 lo,.int .i64 hi] σ (Is (.bool (decide (lo≤n)&&decide (n≤hi))) σ):=by
 refine zZ func33 rfl (by simp) ?_
 refine uZ ?_;and_intros<;>first|exact nl|intros
 all_goals
  refine zW .nil zG yY (zN ?_)
  first
   |(simp[*];done)
   |(rw[Bool.eq_iff_iff];simp only[Bool.and_eq_true,decide_eq_true_eq,Bool.false_eq_true,false_iff,true_iff]<;>omega)
theorem wthn_t{n lo hi:Int}(h:lo≤n∧n≤hi)(σ:List Ent):SCall prog 33 [.int .i64 n,.int .i64 lo,.int .i64 hi] σ (Is (.bool true) σ):=by
 have:=wthn_c n lo hi σ
 rwa [decide_eq_true h.1,decide_eq_true h.2]at this
def sumP(r lo hi:Int)(L:List Prc):Int:=L.foldl (fun n p=>if p.reach=r∧lo≤p.hour∧p.hour≤hi then n+p.litres else n) 0
theorem sumP_le{r lo hi:Int}: ∀{L:List Prc} {n:Int},(∀p∈L,0≤p.litres∧p.litres≤1073741824)→n≤L.foldl (fun n p=>if p.reach=r∧lo≤p.hour∧p.hour≤hi then n+p.litres else n) n∧L.foldl (fun n p=>if p.reach=r∧lo≤p.hour∧p.hour≤hi then n+p.litres else n) n≤n+L.length*1073741824
 |[],n,_=>by simp
 |p::L,n,h=>by
  have h1:=h p (by simp)
  have h2:=sumP_le (r:=r) (lo:=lo) (hi:=hi) (L:=L) (n:=if p.reach=r∧lo≤p.hour∧p.hour≤hi then n+p.litres else n) (fun q hq=>h q (by simp[hq]))
  have h3:n≤(if p.reach=r∧lo≤p.hour∧p.hour≤hi then n+p.litres else n)∧(if p.reach=r∧lo≤p.hour∧p.hour≤hi then n+p.litres else n)≤n+1073741824:=by split<;>omega
  rw[List.foldl_cons,List.length_cons]
  have:((L.length+1:Nat):Int)=(L.length:Int)+1:=by omega
  omega
theorem sumP_c(r:Rf)(hl:r.parcels.length≤1024)(hp0: ∀p∈r.parcels,0≤p.litres∧p.litres≤1073741824)(lo hi:Int){b:Nat}{σ:List Ent}(hm:Ent.cells b (rfC r) 48∈σ):
  SCall prog 34 [.int .i64 lo,.int .i64 hi,.ptr b 0] σ (Is (.int .i64 (sumP r.reach lo hi r.parcels)) σ):=by
 refine zZ func34 rfl (by simp) ?_
 obtain⟨rr,rk,re,rh,L⟩:=r
 dsimp only at hl hp0 ⊢
 have hlm:(L.map prcC).length=L.length:=List.length_map _
 refine yW ?_;intros
 refine zU (fun(k:Nat)=>(⟨[(0,.int .i64 lo),(1,.int .i64 hi),(2,.ptr b 0),(5,.int .i64 (sumP re lo hi (L.take k))),(9,prcs L),(10,.int .i64 L.length),(11,.int .i64 (k:Nat))],σ,[],f34.ntmps⟩:St)) (fun k=>k≤L.length) (fun k=>L.length-k) 0 (Nat.zero_le _) (St.le_of zC yY) ?_
 intro k hI
 by_cases hk:k<L.length
 ·obtain⟨p,hp⟩:=zH hk
  have gp:=prc_get hp
  have h1:=sumP_le (r:=re) (lo:=lo) (hi:=hi) (L:=L.take k) (n:=0) (fun q hq=>hp0 q (List.mem_of_mem_take hq))
  rw[List.length_take]at h1
  have h2:=hp0 p (List.mem_of_getElem? hp)
  have hnx:sumP re lo hi (L.take (k+1))=if p.reach=re∧lo≤p.hour∧p.hour≤hi then sumP re lo hi (L.take k)+p.litres else sumP re lo hi (L.take k):=by
   unfold sumP
   rw[List.take_add_one,hp]
   simp
  have h3:0≤sumP re lo hi (L.take k)∧sumP re lo hi (L.take k)≤1099511627776:=by unfold sumP;omega
  clear h1 hp0 hp
  generalize sumP re lo hi (L.take k)=s at h3 hnx ⊢
  obtain⟨pr,ph,pl,pw⟩:=p
  dsimp only at h2 hnx
  have cw:=fun σ=>wthn_c ph lo hi σ
  by_cases e1:pr=re
  ·by_cases e2:lo≤ph∧ph≤hi
   ·rw[if_pos ⟨e1,e2⟩]at hnx
    rw[decide_eq_true e2.1,decide_eq_true e2.2]at cw
    repeat' first|(apply yQ;exact zD;rfl;rfl;refine zL ?_;exact cw _)|(refine xV ?_;and_intros<;>first|exact nl|intros)|fail
    rw[uE (show-9223372036854775808≤s+pl∧s+pl≤9223372036854775807 by omega)]
    exact⟨k+1,hk,by omega,by rw[hnx];exact(St.le_of zC zJ)⟩
   ·rw[if_neg (fun h=>e2 h.2)]at hnx
    have e3:(decide (lo≤ph)&&decide (ph≤hi))=false:=by
     rw[Bool.eq_false_iff]
     simp only[ne_eq,Bool.and_eq_true,decide_eq_true_eq]
     exact e2
    rw[e3]at cw
    repeat' first|(apply yQ;exact zD;rfl;rfl;refine zL ?_;exact cw _)|(refine xV ?_;and_intros<;>first|exact nl|intros)|fail
    exact⟨k+1,hk,by omega,by rw[hnx];exact(St.le_of zC zJ)⟩
  ·rw[if_neg (fun h=>e1 h.1)]at hnx
   refine uZ ?_;and_intros<;>first|exact nl|intros
   exact⟨k+1,hk,by omega,by rw[hnx];exact(St.le_of zC zJ)⟩
 ·obtain rfl:k=L.length:=by omega
  rw[List.take_length]
  refine yW ?_;intros
  refine zW .nil zG zJ ?_
  rfl
def kJ(d:Dis)(f:BkF)(p:Prc):BkF:=vY f (K2 (upR d p) p.hour) p.litres
def qB(d:Dis)(C:List Clm)(L:List Prc):BkF:=L.foldl (kJ d) (vV d C)
def seenF(L:List Prc):BkF:=L.foldl (fun f p=>xN f (K2 p.reach p.hour) (.b true)) (fun _=>none)
theorem seenF_some: ∀{L:List Prc} {f:BkF} {k:List KL} {x:KL},L.foldl (fun f p=>xN f (K2 p.reach p.hour) (.b true)) f k=some x→(∃p∈L,k=K2 p.reach p.hour)∨f k=some x
 |[],f,k,x,h=>.inr h
 |p::L,f,k,x,h=>by
  rcases seenF_some (L:=L) h with⟨q,hq,e⟩|h
  ·exact .inl ⟨q,by simp[hq],e⟩
  ·simp only[xN]at h
   split at h
   ·rename_i e;exact .inl ⟨p,by simp,e⟩
   ·exact .inr h
theorem seenF_bool: ∀{L:List Prc} {f:BkF},BoolV f→BoolV (L.foldl (fun f p=>xN f (K2 p.reach p.hour) (.b true)) f)
 |[],f,h=>h
 |p::L,f,h=>seenF_bool (L:=L) (h.upd _ _)
theorem seenF_new{L:List Prc}{k:Nat}{p:Prc}(hp:L[k]?=some p)(hn:L.Pairwise fun a b=>pR a≠pR b):tB (seenF (L.take k)) (K2 p.reach p.hour)=false:=by
 unfold tB
 cases hf:seenF (L.take k) (K2 p.reach p.hour) with
 |none=>rfl
 |some x=>
  exfalso
  rcases seenF_some hf with⟨q,hq,e⟩|h
  ·obtain⟨e1,e2⟩:=K2_inj.1 e
   have h1:L=L.take k++p::L.drop (k+1):=by rw[←wZ hp,List.take_append_drop]
   rw[h1,List.pairwise_append]at hn
   exact hn.2.2 q hq p (by simp) (by simp[pR,e1,e2])
  ·cases h
theorem moreF_int{d:Dis}: ∀{L:List Prc} {f:BkF},IntV f→IntV (L.foldl (kJ d) f)
 |[],_,h=>h
 |_::L,f,h=>moreF_int (d:=d) (L:=L) (h.add _ _)
theorem moreF_le{d:Dis}{B:Int}: ∀{L:List Prc} {f:BkF},(∀p∈L,0≤p.litres∧p.litres≤1073741824)→(∀q,0≤zV f q∧zV f q≤B)→ ∀q,0≤zV (L.foldl (kJ d) f) q∧zV (L.foldl (kJ d) f) q≤B+L.length*1073741824
 |[],f,_,h,q=>by simpa using h q
 |p::L,f,ho,h,q=>by
  obtain⟨h1,h2⟩:=ho p (by simp)
  have:=moreF_le (d:=d) (B:=B+1073741824) (L:=L) (f:=kJ d f p) (fun x hx=>ho x (by simp[hx])) (fun q=>by
   unfold kJ
   rw[wD]
   have:=h q
   split<;>omega) q
  simp only[List.foldl_cons,List.length_cons]
  omega
def PrcOk(d:Dis)(m:BkF)(p:Prc):Prop:= ∃(i:Nat) (x:Rch),p.reach=i∧d.R[i]?=some x∧(0≤p.hour∧p.hour<d.hours)∧(1≤p.litres∧p.litres≤1073741824)∧0<p.wanted∧p.wanted=zV m (K2 i (p.hour+x.delay))∧(p.litres≠x.siphon→xR x (p.litres-1)<p.wanted)
theorem more_c(d:Dis)(hd:yZ d=0)(C:List Clm)(hCl:C.length≤4096)(hCo: ∀c∈C,ClmOk d c)(L:List Prc)(hl:L.length≤1024)(hn:L.Pairwise fun a b=>pR a≠pR b)(hL: ∀p∈L,PrcOk d (qB d C L) p)(σ:List Ent):
  SCall prog 32 [scnV d C,prcs L] σ (fun r τ=> ∃b n,r=.tup [.mp b,.bool true]∧τ=.kmap b [false,false] (qB d C L) n::σ):=by
 refine zZ func32 rfl (by simp) ?_
 have hvv:=(zP hd).2
 have hR:=(yC (zP hd).1).1
 have hH:=xF hvv
 have cw:=fun σ=>wanted_c d hd C hCl hCo σ
 have hlt: ∀p∈L,0≤p.litres∧p.litres≤1073741824:=fun p hp=>by
  obtain⟨_,_,_,_,_,h,_⟩:=hL p hp
  omega
 have hint: ∀k,IntV (qB d C (L.take k)):=fun k=>moreF_int (wantF_int (fun k x h=>by cases h))
 have hbd: ∀k q,0≤zV (qB d C (L.take k)) q∧zV (qB d C (L.take k)) q≤8796093022208:=fun k q=>by
  have:=moreF_le (d:=d) (B:=4398046511104) (L:=L.take k) (f:=vV d C) (fun p hp=>hlt p (List.mem_of_mem_take hp)) (fun q=>by
   have:=wantF_le (d:=d) (B:=0) (C:=C) (f:=fun _=>none) (fun c hc=>(hCo c hc).lt) (fun q=>by simp[zV]) q
   unfold vV
   omega) q
  rw[List.length_take]at this
  unfold qB
  omega
 have hnew:=fun k p (h:L[k]?=some p)=>seenF_new h hn
 have hlm:(L.map prcC).length=L.length:=List.length_map _
 have hRl:(d.R.map rchC).length=d.R.length:=List.length_map _
 have hH1:1≤d.hours:=by
  have hv:=hvv
  unfold yD tY at hv
  simp[vS]at hv
  omega
 clear hn hCo hd
 repeat' first|(refine xD (.makeMap _ _) ?_;refine tD [false,false] rfl rfl rfl (vE [false,false]) ?_;intro bm)|(refine xD (.call {callee:=.value (.func 79),args:=_,argTypes:=_}) ?_;refine zK rfl rfl rfl (zQ rfl rfl (zX (by kernel_rfl)) (cw _)) ?_;rintro _ _ ⟨bw,n,rfl,rfl⟩)|(refine yX ?_;intros)|fail
 rename Nat=>bs;revert bs;rename Nat=>n;revert n;rename Nat=>bw;revert bw;rename Nat=>b2;revert b2
 intro b2 bw n bs
 clear cw
 refine zU (fun(z:Nat×Nat×Nat)=>(⟨[(2,.ptr b2 0),(1,prcs L),(4,.mp bw),(6,.mp bs),(17,prcs L),(18,.int .i64 L.length),(19,.int .i64 (z.1:Nat))],.kmap bs [false,false] (seenF (L.take z.1)) z.2.2::.kmap bw [false,false] (qB d C (L.take z.1)) z.2.1::.cells b2 (scnC d C) 77::σ,[],f32.ntmps⟩:St)) (fun z=>z.1≤L.length) (fun z=>L.length-z.1) (0,n,0) (Nat.zero_le _) (St.le_of zC yY) ?_
 intro z hI
 obtain⟨k,n1,n2⟩:=z
 dsimp only at hI ⊢
 by_cases hk:k<L.length
 ·obtain⟨p,hp⟩:=zH hk
  have gp:=prc_get hp
  obtain⟨i,x,e1,hx,e2,e3,_⟩:=hL p (List.mem_of_getElem? hp)
  have hil:=qZ hx
  have gx:(d.R.map rchC)[i]?=some (rchC x):=by rw[List.getElem?_map,hx];rfl
  have hup:=(wP hvv).lt hx
  have hge:=(wP hvv).ge hx
  have hur:upR d p=x.up:=by unfold upR;rw[e1,Int.toNat_natCast,hx]
  have hnm:qB d C (L.take (k+1))=vY (qB d C (L.take k)) (K2 x.up p.hour) p.litres:=by
   unfold qB
   rw[List.take_add_one,hp]
   simp[kJ,hur]
  have hns:seenF (L.take (k+1))=xN (seenF (L.take k)) (K2 p.reach p.hour) (.b true):=by
   unfold seenF
   rw[List.take_add_one,hp]
   simp
  have hfi:=hint k
  have hbn:=hbd k (K2 x.up p.hour)
  have hub:=tB_getD (seenF_bool (L:=L.take k) (f:=fun _=>none) (fun k x h=>by cases h)) (K2 p.reach p.hour)
  rw[show L.take k=L.take k from rfl]at hub
  have hub2:=hnew k p hp
  unfold seenF at hub2
  rw[hub2]at hub
  clear hint hbd hnew hL hp hlt hx hub2 hur hvv
  obtain⟨pr,ph,pl,pw⟩:=p
  dsimp only at e1 e2 e3 hnm hns hbn hub
  subst e1
  have hub3:(seenF (L.take k) (K2 (i:Int) ph)).getD (.b false)=.b false:=hub
  clear hub
  generalize qB d C (L.take k)=f at hnm hfi hbn ⊢
  generalize seenF (L.take k)=S at hns hub3 ⊢
  have hkf:KFit [false,false] (K2 (i:Int) ph):=tP (by omega) (by omega)
  have hkf2:KFit [false,false] (K2 x.up ph):=tP (by omega) (by omega)
  have w1:=fun σ=>wthn_t (n:=(i:Int)) (lo:=0) (hi:=(d.R.length:Int)-1) (by omega) σ
  have w2:=fun σ=>wthn_t (n:=ph) (lo:=0) (hi:=d.hours-1) (by omega) σ
  have w3:=fun σ=>wthn_t (n:=pl) (lo:=1) (hi:=1073741824) (by omega) σ
  repeat' first|(refine xD (.lookup _ _ _ false) ?_;refine uS rfl rfl rfl rfl (zR (z:=.b false) (k:=K2 (i:Int) ph) rfl yU yT rfl rfl yP rfl rfl hkf hub3 rfl) ?_)|(refine xD (.mapUpdate _ _ _ _) ?_;refine yE rfl rfl (wT (k:=K2 (i:Int) ph) (v:=.b true) rfl yU yT rfl rfl rfl hkf rfl rfl qJ rfl) ?_)|(refine yX ?_;intros)|(apply yQ;exact zD;rfl;rfl;refine zL ?_;first|exact w1 _|exact w2 _|exact w3 _)|(refine yV ?_ ?_<;>(intro z;cases z with|_ h)<;>intro hp)|exact nl|cases ‹BV _ _›|exact wG|fail
  rename Nat=>b8;revert b8
  intro b8
  refine yB (fun e=>e=.cells b8 (prcC ⟨i,ph,pl,pw⟩) 110∨e=.cells b2 (scnC d C) 77) [12,16] 18 rfl (by kernel_rfl) rfl ?_
  simp only[List.take_succ_cons,List.take_zero,List.drop_succ_cons,List.drop_zero]
  repeat' first|(refine zgd ?_;first|(refine xH rfl rfl (zR (z:=.i 0) (k:=K2 x.up ph) rfl yU yT rfl rfl yP rfl rfl hkf2 (xZ hfi _) rfl) ?_)|(refine yN rfl rfl (wS (z:=.i 0) (k:=K2 x.up ph) rfl yU yT rfl rfl rfl rfl hkf2 (fun _=>qJ)) ?_;rintro _ _ ⟨es,clock,e,hE,he,hek⟩;refine⟨zks,?_⟩)|(refine xH rfl rfl (xC (z:=.i 0) (k:=K2 x.up ph) rfl yU yT rfl rfl hE yP rfl rfl hkf2 (vH hfi _) rfl) ?_))|(refine xD (.entryStore _ _ _ _) ?_;refine yE rfl rfl (xQ (v:=.i _) hE he hek rfl rfl rfl rfl (qJ) (wA _ _ _ _)) ?_)|(refine yX ?_;intros)|refine vX rfl rfl rfl ?_ ?_|fail
  all_goals
   try rw[uE (show-9223372036854775808≤zV f (K2 x.up ph)+pl∧zV f (K2 x.up ph)+pl≤9223372036854775807 by omega)]
   exact⟨(k+1,cntK f (K2 x.up ph) n1,cntK S (K2 (i:Int) ph) n2),hk,by dsimp only;omega,by dsimp only;rw[hnm,hns];exact(St.le_of zC zJ)⟩
 ·obtain rfl:k=L.length:=by omega
  have hfi:=hint L.length
  rw[List.take_length]at hfi ⊢
  clear hint hbd hnew hlt
  generalize qB d C L=f at hL hfi ⊢
  generalize seenF L=S
  refine yW ?_;intros
  refine zU (fun(z:Nat)=>(⟨[(2,.ptr b2 0),(4,.mp bw),(82,prcs L),(83,.int .i64 L.length),(84,.int .i64 (z:Nat))],.kmap bw [false,false] f n1::.cells b2 (scnC d C) 77::σ,[],f32.ntmps⟩:St)) (fun z=>z≤L.length) (fun z=>L.length-z) 0 (Nat.zero_le _) (St.le_of zC yY) ?_
  intro z hI
  by_cases hz:z<L.length
  ·obtain⟨p,hp⟩:=zH hz
   have gp:=prc_get hp
   obtain⟨i,x,e1,hx,e2,e3,e4,e5,e6⟩:=hL p (List.mem_of_getElem? hp)
   have hil:=qZ hx
   have gx:(d.R.map rchC)[i]?=some (rchC x):=by rw[List.getElem?_map,hx];rfl
   have hok:=RchOk.of (yA hvv hx)
   have hdl:=hok.dl
   have cwst:=fun σ=>worst_c x (p.litres-1) hok σ
   simp only[if_pos (show 0≤p.litres-1∧p.litres-1≤1073741824 by omega)]at cwst
   have hWd:xR x (p.litres-1)=p.litres-1-kZ x (p.litres-1):=rfl
   rw[←hWd]at cwst
   obtain⟨pr,ph,pl,pw⟩:=p
   dsimp only at e1 e2 e3 e4 e5 e6 cwst
   subst e1
   generalize xR x (pl-1)=W at cwst e6
   replace gp:(L.map prcC)[z]?=some [.int .i64 (i:Int),.int .i64 ph,.int .i64 pl,.int .i64 pw]:=gp
   have hkf:KFit [false,false] (K2 (i:Int) (ph+x.delay)):=tP (by omega) (by omega)
   have hvg:=xZ hfi (K2 (i:Int) (ph+x.delay))
   rw[←e5]at hvg
   clear e5 hWd hL hp hx hvv
   have hlk: ∀{σ:List Ent} {env:Env},True:=fun {_ _}=>trivial
   clear hlk
   by_cases hs:pl=x.siphon
   ·clear e6
    subst hs
    repeat' first|(refine zB ?_;intros)|(apply zwI;exact zD;rfl;rfl;intro σ' hl;(exact zR (z:=.i 0) (k:=K2 (i:Int) (ph+x.delay)) rfl yU yT rfl rfl yP rfl rfl hkf hvg rfl))|(refine xB ?_;intros)|refine zTn ?_|(apply yQ;exact zD;rfl;rfl;refine zL ?_;exact cwst _)|(refine yV ?_ ?_<;>(intro z;cases z with|_ h)<;>intro hp)|exact nl|fail
    exact⟨z+1,hz,by omega,(St.le_of zC zJ)⟩
   ·have hw:=e6 hs
    clear e6
    repeat' first|(refine zB ?_;intros)|(apply zwI;exact zD;rfl;rfl;intro σ' hl;(exact zR (z:=.i 0) (k:=K2 (i:Int) (ph+x.delay)) rfl yU yT rfl rfl yP rfl rfl hkf hvg rfl))|(refine xB ?_;intros)|refine zTn ?_|(apply yQ;exact zD;rfl;rfl;refine zL ?_;exact cwst _)|(refine yV ?_ ?_<;>(intro z;cases z with|_ h)<;>intro hp)|exact nl|fail
    exact⟨z+1,hz,by omega,(St.le_of zC zJ)⟩
  ·obtain rfl:z=L.length:=by omega
   clear hL
   refine yW ?_;intros
   refine zS (σ3:=.kmap bw [false,false] f n1::σ) .nil zG zJ ?_
   exact zY ⟨bw,n1,rfl,rfl⟩
open Go.Shelf Go.Sort Go.RowKit Go.WideMaps
def BrokeR(d:Dis)(x:Rch)(m:BkF)(r:Rf):Prop:=
 (r.kind=1∧x.cap<sumP r.reach r.hour r.hour r.parcels)∨(r.kind=3∧x.bank<sumP r.reach (r.hour-x.delay+1) r.hour r.parcels)∨
 (r.kind=4∧r.reach=0∧r.hour=0∧d.start<sumP r.reach 0 d.hours r.parcels)∨
 (r.kind=7∧((0<zV m (K2 r.reach r.hour)∧r.hour<x.delay)∨xR x 1073741824<zV m (K2 r.reach r.hour)))
section
variable {r:Rf} {b11 b20 b21:Nat}
abbrev sumFn(b11:Nat):AV:=.fn (.func 34) [] [.ptr b11 0]
theorem bro2_c(x:Rch)(hl:r.parcels.length≤1024)(hp0: ∀p∈r.parcels,0≤p.litres∧p.litres≤1073741824)(hb:x.cap<sumP r.reach r.hour r.hour r.parcels){σ:List Ent}(m1:Ent.cells b21 [sumFn b11] 111∈σ)(m2:Ent.cells b11 (rfC r) 48∈σ)(m3:Ent.cells b20 (rchC x) 108∈σ):
  SCall prog 35 [.ptr b21 0,.ptr b11 0,.ptr b20 0] σ (Is (.bool true) σ):=by
 refine zZ func35 rfl (by simp) ?_
 have cs:=fun lo hi {σ:List Ent} (hm:Ent.cells b11 (rfC r) 48∈σ)=>sumP_c r hl hp0 lo hi hm
 refine yW ?_;intros
 refine wH anyK [] rfl rfl ?_
 repeat' first|(refine zB ?_;intros)|(apply zvI;exact zD;rfl;intro σ' hl;(exact zQ rfl rfl (zX (by kernel_rfl)) (cs _ _ yP)))|cases ‹BV _ _›|fail
 all_goals
  refine zW .nil zG yY (zN ?_)
  exact decide_eq_true hb
theorem bro3_c(x:Rch)(hx:0≤x.delay∧x.delay≤16)(hh:0≤r.hour∧r.hour≤4096)(hl:r.parcels.length≤1024)(hp0: ∀p∈r.parcels,0≤p.litres∧p.litres≤1073741824)(hb:x.bank<sumP r.reach (r.hour-x.delay+1) r.hour r.parcels){σ:List Ent}(m1:Ent.cells b21 [sumFn b11] 111∈σ)(m2:Ent.cells b11 (rfC r) 48∈σ)(m3:Ent.cells b20 (rchC x) 108∈σ):
  SCall prog 36 [.ptr b21 0,.ptr b11 0,.ptr b20 0] σ (Is (.bool true) σ):=by
 refine zZ func36 rfl (by simp) ?_
 have cs:=fun lo hi {σ:List Ent} (hm:Ent.cells b11 (rfC r) 48∈σ)=>sumP_c r hl hp0 lo hi hm
 refine yW ?_;intros
 refine wH anyK [] rfl rfl ?_
 repeat' first|(refine zB ?_;intros)|(apply zvI;exact zD;rfl;intro σ' hl;(exact zQ rfl rfl (zX (by kernel_rfl)) (cs _ _ yP)))|cases ‹BV _ _›|fail
 all_goals
  refine zW .nil zG yY (zN ?_)
  exact decide_eq_true hb
theorem bro4_c(d:Dis)(hl:r.parcels.length≤1024)(hp0: ∀p∈r.parcels,0≤p.litres∧p.litres≤1073741824)(h1:r.reach=0)(h2:r.hour=0)(hb:d.start<sumP r.reach 0 d.hours r.parcels){b6:Nat}{σ:List Ent}(m1:Ent.cells b21 [sumFn b11] 111∈σ)(m2:Ent.cells b11 (rfC r) 48∈σ)(m3:Ent.cells b6 (disC d) 31∈σ):
  SCall prog 37 [.ptr b11 0,.ptr b21 0,.ptr b6 0] σ (Is (.bool true) σ):=by
 refine zZ func37 rfl (by simp) ?_
 have cs:=fun lo hi {σ:List Ent} (hm:Ent.cells b11 (rfC r) 48∈σ)=>sumP_c r hl hp0 lo hi hm
 refine yW ?_;intros
 refine wH anyK [] rfl rfl ?_
 repeat' first|(refine zB ?_;intros)|(apply zvI;exact zD;rfl;intro σ' hl;(exact zQ rfl rfl (zX (by kernel_rfl)) (cs _ _ yP)))|(refine yV ?_ ?_<;>(intro z;cases z with|_ h)<;>intro hp)|exact nl|cases ‹BV _ _›|fail
 all_goals
  refine zW .nil zG yY (zN ?_)
  first
   |exact decide_eq_true hb
   |(exfalso;omega)
theorem bro5_c(x:Rch)(hok:RchOk x)(i:Nat)(hi:i≤64)(hri:r.reach=i)(hh:0≤r.hour∧r.hour≤4096){m:BkF}{n bm b18:Nat}(hm:IntV m)(hb:(0<zV m (K2 r.reach r.hour)∧r.hour<x.delay)∨xR x 1073741824<zV m (K2 r.reach r.hour)){σ:List Ent}(m1:Ent.cells b18 [.mp bm] 98∈σ)(m4:Ent.kmap bm [false,false] m n∈σ)(m2:Ent.cells b11 (rfC r) 48∈σ)(m3:Ent.cells b20 (rchC x) 108∈σ):
  SCall prog 38 [.ptr b18 0,.ptr b11 0,.ptr b20 0] σ (Is (.bool true) σ):=by
 refine zZ func38 rfl (by simp) ?_
 have hdl:=hok.dl
 have hkf:KFit [false,false] (K2 r.reach r.hour):=tP (by omega) (by omega)
 have hvg:=xZ hm (K2 r.reach r.hour)
 have cwst:=fun σ=>worst_c x 1073741824 hok σ
 simp only[if_pos (show (0:Int)≤1073741824∧(1073741824:Int)≤1073741824 by omega)]at cwst
 have hWd:xR x 1073741824=1073741824-kZ x 1073741824:=rfl
 rw[←hWd]at cwst
 clear hWd
 generalize xR x 1073741824=W at hb cwst
 generalize hv:zV m (K2 r.reach r.hour)=v at hb hvg
 clear hv
 repeat' first|(refine xD (.lookup _ _ _ false) ?_;refine wW rfl rfl rfl (zR (z:=.i 0) (k:=K2 r.reach r.hour) rfl yU yT rfl rfl yP rfl rfl hkf hvg rfl) ?_)|(refine yX ?_;intros)|(apply yQ;exact zD;rfl;rfl;refine zL ?_;exact cwst _)|(refine yV ?_ ?_<;>(intro z;cases z with|_ h)<;>intro hp)|cases ‹BV _ _›|fail
 all_goals
  refine zW .nil zG yY (zN ?_)
  first
   |(exact decide_eq_true (by omega))
   |rfl
   |(exfalso;omega)
end
theorem holds_c(d:Dis)(l:List Ded)(frm to known:Int)(r:Rf)(σ:List Ent)
  (h0:tQ d l frm to known=0) (hrs:r.rights.Sublist (uG ((kK d l frm to known).map Clm.right)))
  (hl:r.parcels.length≤1024) (hn:r.parcels.Pairwise fun a b=>pR a≠pR b) (hL: ∀p∈r.parcels,PrcOk d (qB d (vZ r.rights (kK d l frm to known)) r.parcels) p)
  (hre: ∃(i:Nat) (x:Rch),r.reach=i∧d.R[i]?=some x∧(0≤r.hour∧r.hour<d.hours)∧BrokeR d x (qB d (vZ r.rights (kK d l frm to known)) r.parcels) r):
  SCall prog 11 [disV d,deds l,.int .i64 frm,.int .i64 to,.int .i64 known,rfV r] σ (Is (.tup [.bool true,.int .i64 0]) σ):=by
 refine zZ func11 rfl (by simp) ?_
 have co:=fun σ=>openS_c d l frm to known σ
 rw[if_pos h0,h0]at co
 obtain⟨k1,k2,k3⟩:=open_zero h0
 have hd:=ofL_dis k1
 have hC:=of_ok k1
 have hCl:=hC.len
 clear h0 k1 k2
 generalize kK d l frm to known=C at co hC hCl k3 hrs hL hre
 have cr:=fun σ=>rights_c d C (by omega) σ
 have hup:=(setOf_up (C.map Clm.right)).sublist hrs
 have hrm: ∀x∈r.rights,(uG (C.map Clm.right)).contains x=true:=fun x hx=>List.contains_iff_mem.2 (hrs.subset hx)
 have hrl:r.rights.length≤10:=Nat.le_trans hrs.length_le k3
 generalize uG (C.map Clm.right)=rs at cr hrm k3 hrs
 have cc:=fun x σ=>containsI_c rs (by omega) x σ
 have cf:=fun σ=>ofS_c d C (by omega) r.rights (by omega) σ
 have hoC:=ownC_ok hC r.rights
 have cm:=fun σ=>more_c d hd (vZ r.rights C) hoC.len hoC.ok r.parcels hl hn hL σ
 have hp0: ∀p∈r.parcels,0≤p.litres∧p.litres≤1073741824:=fun p hp=>by
  obtain⟨_,_,_,_,_,h,_⟩:=hL p hp
  omega
 have hmi:IntV (qB d (vZ r.rights C) r.parcels):=moreF_int (wantF_int (fun k x h=>by cases h))
 generalize qB d (vZ r.rights C) r.parcels=m at cm hre hmi
 generalize vZ r.rights C=oC at cf cm
 obtain⟨i,x,hri,hx,hrh,hbr⟩:=hre
 have hvv:=(zP hd).2
 have hH:=xF hvv
 have hR:=(yC (zP hd).1).1
 have hil:=qZ hx
 have gx:(d.R.map rchC)[i]?=some (rchC x):=by rw[List.getElem?_map,hx];rfl
 have hok:=RchOk.of (yA hvv hx)
 clear hrs hn hL hC hoC hd hx hvv
 repeat' first|(show EX _ _ (Code.seq (Code.region 5 _ _) _) _ _;refine Stuck.out ?_)|(refine vW ?_;intros)|(apply yQ;exact zD;rfl;rfl;refine zL ?_;first|exact co _|exact cr _)|(refine yV ?_ ?_<;>(intro z;cases z with|_ h)<;>intro hp)|exact nl|fail
 all_goals try refine Stuck.mk ?_
 rename Nat=>b14;revert b14;rename Nat=>b11;revert b11;rename Nat=>b6;revert b6
 intro b6 b11 b14
 refine yS (s':=⟨[(6,.ptr b6 0),(11,.ptr b11 0),(14,.ptr b14 0),(15,ints rs)],.cells b14 (scnC d C) 77::.cells b11 (rfC r) 48::.cells b6 (disC d) 31::σ,[],f11.ntmps⟩) (St.le_of zC yY) ?_
 clear co cr
 refine yW ?_;intros
 have hrlm:(r.rights.map intC).length=r.rights.length:=List.length_map _
 refine zU (fun(z:Nat)=>(⟨[(6,.ptr b6 0),(11,.ptr b11 0),(14,.ptr b14 0),(15,ints rs),(40,ints r.rights),(41,.int .i64 r.rights.length),(42,.int .i64 (z:Nat))],.cells b14 (scnC d C) 77::.cells b11 (rfC r) 48::.cells b6 (disC d) 31::σ,[],f11.ntmps⟩:St)) (fun z=>z≤r.rights.length) (fun z=>r.rights.length-z) 0 (Nat.zero_le _) (St.le_of zC yY) ?_
 intro z hI
 by_cases hz:z<r.rights.length
 ·obtain⟨y,hy⟩:=zH hz
  have gy:=wU hy
  have cy:=cc y
  rw[hrm y (List.mem_of_getElem? hy)]at cy
  clear cc cf cm hrm hbr hmi hp0
  cases z with
  |zero=>
   clear hup hy
   repeat' first|(apply yQ;exact zD;rfl;rfl;refine zL ?_;exact cy _)|(refine xV ?_;and_intros<;>first|exact nl|intros)|cases ‹BV _ _›|exact wG|fail
   exact⟨1,hz,by omega,(St.le_of zC zJ)⟩
  |succ z=>
   obtain⟨y0,hy0⟩:=zH (show z<r.rights.length by omega)
   have gy0:=wU hy0
   have hlt:y0<y:=by
    have h1:r.rights=r.rights.take (z+1)++y::r.rights.drop (z+1+1):=by rw[←wZ hy,List.take_append_drop]
    rw[h1,List.pairwise_append]at hup
    exact hup.2.2 y0 (by rw[List.take_add_one,hy0];simp) y (by simp)
   have hcz:((z+1:Nat):Int)-1=(z:Nat):=by omega
   clear hup hy hy0
   repeat' first|(apply yQ;exact zD;rfl;rfl;refine zL ?_;exact cy _)|(refine xV ?_;and_intros<;>first|exact nl|intros)|cases ‹BV _ _›|exact wG|fail
   exact⟨z+1+1,hz,by omega,(St.le_of zC zJ)⟩
 obtain rfl:z=r.rights.length:=by omega
 clear cc hup hrm
 repeat' first|(show EX _ _ (Code.seq (Code.region 11 _ _) _) _ _;refine Stuck.out ?_)|(refine vW ?_;intros)|(refine yV ?_ ?_<;>(intro z;cases z with|_ h)<;>intro hp)|exact nl|fail
 all_goals try refine Stuck.mk ?_
 refine ex_joinP (fun(p:Nat×Nat×Nat)=>⟨[(6,.ptr b6 0),(11,.ptr b11 0),(18,.ptr p.1 0),(19,.bool true)],.cells p.1 [.mp p.2.1] 98::.kmap p.2.1 [false,false] m p.2.2::.cells b14 (scnC d C) 77::.cells b11 (rfC r) 48::.cells b6 (disC d) 31::σ,[],f11.ntmps⟩) ?_ ?_
 ·refine yW ?_;intros
  refine wH (fun e=>e=.cells b14 (scnC d C) 77∨e=.cells b11 (rfC r) 48) [6,10,11] rfl rfl ?_
  repeat' first|(refine zgp (.call {callee:=.value (.func 32),args:=_,argTypes:=_}) ?_;refine yN rfl rfl (zQ rfl rfl (zX (by kernel_rfl)) (cm _)) ?_;rintro _ _ ⟨b,n,rfl,rfl⟩;refine⟨zks,?_⟩)|(refine zB ?_;intros)|(apply zvI;exact zD;rfl;intro σ' hl;(exact zQ rfl rfl (zX (by kernel_rfl)) (cf _)))|(refine xB ?_;intros)|refine vX rfl rfl rfl ?_ ?_|fail
  ·rename_i bb
   refine⟨(bb,b,n),_,.refl _,?_⟩
   dsimp only
   exact(St.le_of zC zJ)
  ·rename_i bb
   refine⟨(bb,b,n),_,.swap _ _ _,?_⟩
   dsimp only
   exact(St.le_of zC zJ)
 rintro⟨b18,bm,n⟩
 dsimp only
 clear cf cm
 have w1:=fun σ=>wthn_t (n:=r.reach) (lo:=0) (hi:=(d.R.length:Int)-1) (by omega) σ
 have w2:=fun σ=>wthn_t (n:=r.hour) (lo:=0) (hi:=d.hours-1) (by omega) σ
 have hH1:1≤d.hours:=by omega
 repeat' first|(show EX _ _ (Code.seq (Code.region 17 _ _) _) _ _;refine Stuck.out ?_)|(refine vW ?_;intros)|(apply yQ;exact zD;rfl;rfl;refine zL ?_;first|exact w1 _|exact w2 _)|(refine yV ?_ ?_<;>(intro z;cases z with|_ h)<;>intro hp)|exact nl|cases ‹BV _ _›|exact wG|fail
 all_goals try refine Stuck.mk ?_
 rename Nat=>b21;revert b21;rename Nat=>b20;revert b20
 intro b20 b21
 rename Value=>v
 refine yS (s':=⟨[(6,.ptr b6 0),(11,.ptr b11 0),(20,.ptr b20 0),(21,.ptr b21 0),(22,.slv v)],.row v 112 2 [[.int .i64 1,.fn (.func 35) [] [.ptr b21 0,.ptr b11 0,.ptr b20 0]],[.int .i64 3,.fn (.func 36) [] [.ptr b21 0,.ptr b11 0,.ptr b20 0]],[.int .i64 4,.fn (.func 37) [] [.ptr b11 0,.ptr b21 0,.ptr b6 0]],[.int .i64 7,.fn (.func 38) [] [.ptr b18 0,.ptr b11 0,.ptr b20 0]]]::.cells b21 [sumFn b11] 111::.cells b20 (rchC x) 108::.cells b18 [.mp bm] 98::.kmap bm [false,false] m n::.cells b11 (rfC r) 48::.cells b6 (disC d) 31::σ,[],f11.ntmps⟩) (St.le_of zC yY) ?_
 obtain⟨K,hK⟩: ∃K:List (List AV),K=[[.int .i64 1,.fn (.func 35) [] [.ptr b21 0,.ptr b11 0,.ptr b20 0]],[.int .i64 3,.fn (.func 36) [] [.ptr b21 0,.ptr b11 0,.ptr b20 0]],[.int .i64 4,.fn (.func 37) [] [.ptr b11 0,.ptr b21 0,.ptr b6 0]],[.int .i64 7,.fn (.func 38) [] [.ptr b18 0,.ptr b11 0,.ptr b20 0]]]:=⟨_,rfl⟩
 rw[←hK]
 have hKl:K.length=4:=by rw[hK];rfl
 have gK0:K[0]?=some [.int .i64 1,.fn (.func 35) [] [.ptr b21 0,.ptr b11 0,.ptr b20 0]]:=by rw[hK];rfl
 have gK1:K[1]?=some [.int .i64 3,.fn (.func 36) [] [.ptr b21 0,.ptr b11 0,.ptr b20 0]]:=by rw[hK];rfl
 have gK2:K[2]?=some [.int .i64 4,.fn (.func 37) [] [.ptr b11 0,.ptr b21 0,.ptr b6 0]]:=by rw[hK];rfl
 have gK3:K[3]?=some [.int .i64 7,.fn (.func 38) [] [.ptr b18 0,.ptr b11 0,.ptr b20 0]]:=by rw[hK];rfl
 clear hK
 clear w1 w2
 refine yW ?_;intros
 refine zU (fun(z:Nat)=>(⟨[(6,.ptr b6 0),(11,.ptr b11 0),(20,.ptr b20 0),(21,.ptr b21 0),(22,.slv v),(113,.slv v),(114,.int .i64 K.length),(115,.int .i64 (z:Nat))],.row v 112 2 K::.cells b21 [sumFn b11] 111::.cells b20 (rchC x) 108::.cells b18 [.mp bm] 98::.kmap bm [false,false] m n::.cells b11 (rfC r) 48::.cells b6 (disC d) 31::σ,[],f11.ntmps⟩:St)) (fun z=>z=0∨(z=1∧r.kind≠1)∨(z=2∧r.kind≠1∧r.kind≠3)∨(z=3∧r.kind=7)) (fun z=>4-z) 0 (.inl rfl) (St.le_of zC yY) ?_
 intro z hI
 have cb2:=fun(hb:x.cap<sumP r.reach r.hour r.hour r.parcels) {σ:List Ent} m1 m2 m3=>bro2_c (b11:=b11) (b20:=b20) (b21:=b21) (σ:=σ) x hl hp0 hb m1 m2 m3
 have cb3:=fun(hb:x.bank<sumP r.reach (r.hour-x.delay+1) r.hour r.parcels) {σ:List Ent} m1 m2 m3=>bro3_c (b11:=b11) (b20:=b20) (b21:=b21) (σ:=σ) x (by have:=hok.dl;omega) (by omega) hl hp0 hb m1 m2 m3
 have cb4:=fun(h1:r.reach=0) (h2:r.hour=0) (hb:d.start<sumP r.reach 0 d.hours r.parcels) {σ:List Ent} m1 m2 m3=>bro4_c (b11:=b11) (b21:=b21) (b6:=b6) (σ:=σ) d hl hp0 h1 h2 hb m1 m2 m3
 have cb5:=fun(hb:(0<zV m (K2 r.reach r.hour)∧r.hour<x.delay)∨xR x 1073741824<zV m (K2 r.reach r.hour)) {σ:List Ent} m1 m4 m2 m3=>bro5_c (b11:=b11) (b20:=b20) (b18:=b18) (bm:=bm) (n:=n) (σ:=σ) x hok i (by omega) hri (by omega) hmi hb m1 m4 m2 m3
 clear hp0 hmi hok
 rcases hI with rfl|⟨rfl,q1⟩|⟨rfl,q1,q2⟩|⟨rfl,q1⟩
 ·clear cb3 cb4 cb5 gK1 gK2 gK3
  have hz9:0<K.length:=by omega
  by_cases hk:r.kind=1
  ·have cb:=fun {σ:List Ent}=>cb2 (by rcases hbr with⟨_,h⟩|⟨h,_⟩|⟨h,_⟩|⟨h,_⟩;exact h;all_goals omega) (σ:=σ)
   clear cb2 hbr
   repeat' first|(refine zB ?_;intros)|(apply qX;exact zD;rfl;rfl;(exact zQ rfl rfl (zX (by kernel_rfl)) (cb yP yP yP)))|(refine xB ?_;intros)|(refine yV ?_ ?_<;>(intro z;cases z with|_ h)<;>intro hp)|exact nl|fail
   refine zS (σ3:=σ) .nil zG zJ ?_
   exact zY .mk
  ·clear cb2 hbr
   refine yW ?_;intros
   exact⟨1,.inr (.inl ⟨rfl,hk⟩),by omega,(St.le_of zC zJ)⟩
 ·clear cb2 cb4 cb5 gK0 gK2 gK3
  have hz9:1<K.length:=by omega
  by_cases hk:r.kind=3
  ·have cb:=fun {σ:List Ent}=>cb3 (by rcases hbr with⟨h,_⟩|⟨_,h⟩|⟨h,_⟩|⟨h,_⟩;omega;exact h;all_goals omega) (σ:=σ)
   clear cb3 hbr
   repeat' first|(refine zB ?_;intros)|(apply qX;exact zD;rfl;rfl;(exact zQ rfl rfl (zX (by kernel_rfl)) (cb yP yP yP)))|(refine xB ?_;intros)|(refine yV ?_ ?_<;>(intro z;cases z with|_ h)<;>intro hp)|exact nl|fail
   refine zS (σ3:=σ) .nil zG zJ ?_
   exact zY .mk
  ·clear cb3 hbr
   refine yW ?_;intros
   exact⟨2,.inr (.inr (.inl ⟨rfl,q1,hk⟩)),by omega,(St.le_of zC zJ)⟩
 ·clear cb2 cb3 cb5 gK0 gK1 gK3
  have hz9:2<K.length:=by omega
  by_cases hk:r.kind=4
  ·have hb4:r.reach=0∧r.hour=0∧d.start<sumP r.reach 0 d.hours r.parcels:=by
    rcases hbr with⟨h,_⟩|⟨h,_⟩|⟨_,h⟩|⟨h,_⟩
    ·omega
    ·omega
    ·exact h
    ·omega
   have cb:=fun {σ:List Ent}=>cb4 hb4.1 hb4.2.1 hb4.2.2 (σ:=σ)
   clear cb4 hbr hb4
   repeat' first|(refine zB ?_;intros)|(apply qX;exact zD;rfl;rfl;(exact zQ rfl rfl (zX (by kernel_rfl)) (cb yP yP yP)))|(refine xB ?_;intros)|(refine yV ?_ ?_<;>(intro z;cases z with|_ h)<;>intro hp)|exact nl|fail
   refine zS (σ3:=σ) .nil zG zJ ?_
   exact zY .mk
  ·have hk7:r.kind=7:=by
    rcases hbr with⟨h,_⟩|⟨h,_⟩|⟨h,_⟩|⟨h,_⟩<;>omega
   clear cb4 hbr
   refine yW ?_;intros
   exact⟨3,.inr (.inr (.inr ⟨rfl,hk7⟩)),by omega,(St.le_of zC zJ)⟩
 ·clear cb2 cb3 cb4 gK0 gK1 gK2
  have hz9:3<K.length:=by omega
  have hb5:(0<zV m (K2 r.reach r.hour)∧r.hour<x.delay)∨xR x 1073741824<zV m (K2 r.reach r.hour):=by
   rcases hbr with⟨h,_⟩|⟨h,_⟩|⟨h,_⟩|⟨_,h⟩
   ·omega
   ·omega
   ·omega
   ·exact h
  have cb:=fun {σ:List Ent}=>cb5 hb5 (σ:=σ)
  clear cb5 hbr hb5
  repeat' first|(refine zB ?_;intros)|(apply qX;exact zD;rfl;rfl;(exact zQ rfl rfl (zX (by kernel_rfl)) (cb yP yP yP yP)))|(refine xB ?_;intros)|(refine yV ?_ ?_<;>(intro z;cases z with|_ h)<;>intro hp)|exact nl|fail
  refine zS (σ3:=σ) .nil zG zJ ?_
  exact zY .mk
open Go.Shelf Go.Sort Go.RowKit Go.WideMaps
abbrev K3(a b:Int)(o:Bool):List KL:=[.i a,.i b,.b o]
theorem K3_inj{a b c d:Int}{o p:Bool}:K3 a b o=K3 c d p↔a=c∧b=d∧o=p:=by simp[K3]
theorem fitK3{a b:Int}{o:Bool}(ha: -9223372036854775808≤a∧a≤9223372036854775807)(hb: -9223372036854775808≤b∧b≤9223372036854775807):KFit [false,false,true] (K3 a b o):=⟨ha,hb,trivial,trivial⟩
theorem kF:KeyLaw prog 236:=deep_law_laid (by kernel_rfl) (m:=3) (by omega) (of_decide_eq_true (by kernel_rfl)) (by kernel_rfl) (by kernel_rfl)
theorem kE:kmKey prog 236 [false,false,true]=true:=by kernel_rfl
abbrev mats(L:List (List Int)):AV:=.dl 1 (L.map fun x=>[ints x])
abbrev tblC(d:Dis)(l:List Ord')(bm:Nat)(S D:List (List Int)):List AV:=[.str d.nm,.int .i64 d.hours,.int .i64 d.cap,.int .i64 d.start,rchs d.R,frms d.F,crps d.C,rgts d.G,dtys d.D,wlls d.W,ords l,.mp bm,mats S,mats D]
abbrev tblV(d:Dis)(l:List Ord')(bm:Nat)(S D:List (List Int)):AV:=.agg (tblC d l bm S D)
def xJ(l:List Ord'):BkF:=l.foldl (fun f o=>xN f (K3 o.hour o.index o.outlet) (.i o.litres)) (fun _=>none)
theorem litF_int: ∀{L:List Ord'} {f:BkF},IntV f→IntV (L.foldl (fun f o=>xN f (K3 o.hour o.index o.outlet) (.i o.litres)) f)
 |[],f,h=>h
 |o::L,f,h=>litF_int (L:=L) (h.upd _ _)
theorem litF_le: ∀{L:List Ord'} {f:BkF},(∀o∈L,0≤o.litres∧o.litres≤1073741824)→(∀q,0≤zV f q∧zV f q≤1073741824)→ ∀q,0≤zV (L.foldl (fun f o=>xN f (K3 o.hour o.index o.outlet) (.i o.litres)) f) q∧zV (L.foldl (fun f o=>xN f (K3 o.hour o.index o.outlet) (.i o.litres)) f) q≤1073741824
 |[],f,_,h=>h
 |o::L,f,hL,h=>litF_le (L:=L) (fun o ho=>hL o (by simp[ho])) (fun q=>by
  have h1:=hL o (by simp)
  have h2:=h q
  rw[pJ]
  split
  ·exact h1
  ·exact h2)
theorem cells_c(d:Dis)(l:List Ord')(bm:Nat)(S D:List (List Int))(σ:List Ent):SCall prog 135 [tblV d l bm S D] σ (fun r τ=> ∃b,r=.fn (.func 202) [] [.ptr b 0]∧τ=.cells b (tblC d l bm S D) 178::σ):=by
 refine zZ func135 rfl (by simp) ?_
 refine yW ?_;intros
 rename Nat=>b1;revert b1
 intro b1
 refine zS (σ3:=.cells b1 (tblC d l bm S D) 178::σ) .nil zG zJ ?_
 exact zY ⟨b1,rfl,rfl⟩
theorem cells1_c(d:Dis)(hH:0≤d.hours∧d.hours≤4096)(hR:d.R.length≤64)(l:List Ord')(bm:Nat)(S D:List (List Int))(b:Nat):
  Yields prog 202 [] [.ptr b 0] ((yK d.hours.toNat d.R.length 0).map fun p=>[AV.int .i64 p.1,AV.int .i64 p.2]) (fun τ=>Ent.cells b (tblC d l bm S D) 178∈τ):=by
 intro yl σ I Stop hC hy h0
 refine zZ func202 rfl (by simp) ?_
 have m0:=hC _ _ h0
 obtain⟨N,hN⟩: ∃N:Nat,d.hours=N:=⟨d.hours.toNat,by omega⟩
 rw[hN,Int.toNat_natCast]at hy ⊢
 obtain⟨F,hF⟩: ∃F,F=yK N d.R.length 0:=⟨_,rfl⟩
 rw[←hF]at hy ⊢
 have hRl:(d.R.map rchC).length=d.R.length:=List.length_map _
 refine yW ?_;intros
 refine zU (fun(z:Nat×Nat×List Ent)=>(⟨[(0,.fn (.yield yl) [] []),(1,.ptr b 0),(7,.int .i64 d.hours),(8,.int .i64 (z.1:Nat))],z.2.2,[],f202.ntmps⟩:St)) (fun z=>z.1≤N∧yK N d.R.length z.1=F.drop z.2.1∧z.2.1≤F.length∧I z.2.1 z.2.2) (fun z=>N-z.1) (0,0,σ) (⟨Nat.zero_le _,by dsimp only;rw[←hF];rfl,Nat.zero_le _,h0⟩) (St.le_of zC yY) ?_
 intro z hI
 obtain⟨u,j,τ⟩:=z
 obtain⟨hI1,hI2,hI3,hI4⟩:=hI
 dsimp only at hI1 hI2 hI3 hI4 ⊢
 clear m0 h0 hF
 have m0:=hC _ _ hI4
 by_cases hu:u<N
 rotate_left
 ·obtain rfl:u=N:=by omega
  rw[plsFrom_end (Nat.le_refl _)]at hI2
  have hj:j=F.length:=by
   have:=List.drop_eq_nil_iff.1 hI2.symm
   omega
  have hge:¬ (u:Int)<d.hours:=by omega
  clear hy hC
  refine yW ?_;intros
  refine zS (σ3:=τ) .nil zG zJ ?_
  exact zY (.inl (by rw[List.length_map,←hj];exact hI4))
 have hlu:(u:Int)<d.hours:=by omega
 rw[plsFrom_next hu]at hI2
 obtain⟨Q0,hQ0⟩: ∃Q,Q=yK N d.R.length (u+1):=⟨_,rfl⟩
 rw[←hQ0]at hI2
 refine yW ?_;intros
 clear m0
 refine zU (fun(z:Nat×Nat×List Ent)=>(⟨[(0,.fn (.yield yl) [] []),(1,.ptr b 0),(3,.int .i64 (u:Nat)),(7,.int .i64 d.hours),(8,.int .i64 (u:Nat)),(14,.int .i64 d.R.length),(15,.int .i64 (z.1:Nat))],z.2.2,[],f202.ntmps⟩:St)) (fun z=>z.1≤d.R.length∧(((List.range d.R.length).drop z.1).map fun i=>(u,i))++Q0=F.drop z.2.1∧z.2.1≤F.length∧I z.2.1 z.2.2) (fun z=>d.R.length-z.1) (0,j,τ) (⟨Nat.zero_le _,hI2,hI3,hI4⟩) (St.le_of zC yY) ?_
 intro z hI
 clear hI2 hI3 hI4
 obtain⟨i,j,τ⟩:=z
 obtain⟨hJ1,hJ2,hJ3,hJ4⟩:=hI
 dsimp only at hJ1 hJ2 hJ3 hJ4 ⊢
 by_cases hi:i<d.R.length
 ·rw[qU hi,List.map_cons,List.cons_append]at hJ2
  have hj:F[j]?=some (u,i):=by
   have:=congrArg (fun m:List Pl=>m[0]?) hJ2
   simpa using this.symm
  have hjd:(((List.range d.R.length).drop (i+1)).map fun i=>(u,i))++Q0=F.drop (j+1):=by
   have:=congrArg (fun m:List Pl=>m.drop 1) hJ2
   simpa using this
  have hjl:j<F.length:=(List.getElem?_eq_some_iff.1 hj).1
  have hr:=hy j [.int .i64 (u:Int),.int .i64 (i:Int)] τ (by rw[List.getElem?_map,hj];rfl) hJ4
  clear hy hj hJ2 hC
  repeat' first|(refine xD (.call {callee:=.value (.tmp _),args:=_,argTypes:=_}) ?_;refine zK rfl rfl rfl (tX rfl rfl hr) ?_;rintro _ _ (⟨rfl,hs⟩|⟨rfl,hs⟩))|(refine yX ?_;intros)|(refine yV ?_ ?_<;>(intro z;cases z with|_ h)<;>intro hp)|exact nl|fail
  ·rename List Ent=>σ2
   exact⟨(i+1,j+1,σ2),⟨hi,hjd,hjl,hs⟩,by dsimp only;omega,(St.le_of zC zJ)⟩
  ·rename List Ent=>σ2
   refine zS (σ3:=σ2) .nil zG zJ ?_
   exact zY (.inr hs)
 ·obtain rfl:i=d.R.length:=by omega
  rw[List.drop_of_length_le (by simp),List.map_nil,List.nil_append]at hJ2
  clear hy hC
  refine yW ?_;intros
  exact⟨(u+1,j,τ),⟨hu,by dsimp only;rw[←hQ0];exact hJ2,hJ3,hJ4⟩,by dsimp only;omega,(St.le_of zC zJ)⟩
def arrF(d:Dis)(f:BkF)(h r:Nat):Int:=match d.R[r]? with
 |some x=>xR x (zV f (K3 ((h:Int)-x.delay) r false))
 |none=>0
theorem arrives_c(d:Dis)(hd:yZ d=0)(l:List Ord')(bm:Nat)(S D:List (List Int))(f:BkF)(hfi:IntV f)(hfb: ∀q,0≤zV f q∧zV f q≤1073741824)(n:Nat)(r h_:Nat)(hr:r<d.R.length)(hh:(h_:Int)≤4096){σ:List Ent}(m1:Ent.kmap bm [false,false,true] f n∈σ):
  SCall prog 136 [tblV d l bm S D,.int .i64 (r:Nat),.int .i64 (h_:Nat)] σ (Is (.int .i64 (arrF d f h_ r)) σ):=by
 refine zZ func136 rfl (by simp) ?_
 have hvv:=(zP hd).2
 have hR:=(yC (zP hd).1).1
 obtain⟨x,hx⟩:=zH hr
 have gx:(d.R.map rchC)[r]?=some (rchC x):=by rw[List.getElem?_map,hx];rfl
 have hok:=RchOk.of (yA hvv hx)
 have hdl:=hok.dl
 have ha:arrF d f h_ r=xR x (zV f (K3 ((h_:Int)-x.delay) r false)):=by unfold arrF;rw[hx]
 rw[ha]
 have hkf:KFit [false,false,true] (K3 ((h_:Int)-x.delay) r false):=fitK3 (by omega) (by omega)
 have hvg:=xZ hfi (K3 ((h_:Int)-x.delay) r false)
 have hb:=hfb (K3 ((h_:Int)-x.delay) r false)
 generalize zV f (K3 ((h_:Int)-x.delay) r false)=v at hvg hb ⊢
 have cwst:=fun σ=>worst_c x v hok σ
 simp only[if_pos hb]at cwst
 have hWd:xR x v=v-kZ x v:=rfl
 rw[←hWd]at cwst
 generalize xR x v=W at cwst ⊢
 clear hfb hd hvv hx ha hWd
 refine yW ?_;intros
 refine wH anyK [] rfl rfl ?_
 repeat' first|(refine zB ?_;intros)|(apply zvI;exact zD;rfl;intro σ' hl;first|((exact zR (z:=.i 0) (k:=K3 ((h_:Int)-x.delay) r false) rfl kF kE rfl rfl yP rfl rfl hkf hvg rfl))|((exact zQ rfl rfl (zX (by kernel_rfl)) (cwst _))))|fail
 all_goals
  refine zW .nil zG zJ ?_
  rfl
end Go.Proofs.YtaoaafdommlhcaaGreat
