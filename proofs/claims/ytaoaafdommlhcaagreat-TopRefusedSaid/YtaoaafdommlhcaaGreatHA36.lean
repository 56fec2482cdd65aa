/- Parts of the proof that belong together: Ib Ic Id Ie If. -/
import Derived.Test.YtaoaafdommlhcaaGreatHA07
import Derived.Test.YtaoaafdommlhcaaGreatHA10
import Derived.Test.YtaoaafdommlhcaaGreatHA35
set_option maxRecDepth 10000
set_option maxHeartbeats 32000000
set_option linter.unusedSimpArgs false
set_option linter.unusedVariables false
set_option autoImplicit false
open Go.Proofs.Tryz
namespace Go.Proofs.YtaoaafdommlhcaaGreat
open Go.WideMaps
abbrev colF(b:Nat):AV:=.fn (.func 83) [] [.ptr b 0]
theorem col_c(x:Flt)(b:Nat)(v:Value)(A:List Flt)(hA:A.length≤10000000)(σ:List Ent):
  SCall prog 83 [fltV x,.ptr b 0] (.cells b [.slv v] 90::.row v 73 5 (A.map fltC)::σ) (fun r τ=> ∃v',r=.bool true∧τ=.cells b [.slv v'] 90::.row v' 73 5 ((A++[x]).map fltC)::σ):=by
 refine zZ func83 rfl (by simp) ?_
 have hlm:(A.map fltC).length=A.length:=List.length_map _
 have hmp:(A++[x]).map fltC=A.map fltC++[fltC x]:=by simp
 rw[hmp]
 refine yW ?_;intros
 rename Value=>vn
 refine zS (σ3:=.cells b [.slv vn] 90::.row vn 73 5 (A.map fltC++[fltC x])::σ) .nil zG zJ ?_
 exact zY ⟨vn,rfl,rfl⟩
def gate1(d:Dis)(kind:Int)(o:Ord'):List Flt:=if o.outlet=true then []else match d.R[o.index.toNat]? with
 |none=>[]
 |some x=>if kind=2 then (if o.litres<x.siphon then [⟨kind,o.hour,o.index,o.litres,x.siphon⟩]else [])else (if x.cap<o.litres then [⟨kind,o.hour,o.index,o.litres,x.cap⟩]else [])
def vN(d:Dis)(kind:Int)(l:List Ord'):List Flt:=l.flatMap (gate1 d kind)
theorem gate1_len(d:Dis)(kind:Int)(o:Ord'):(gate1 d kind o).length≤1:=by
 unfold gate1
 repeat' split
 all_goals simp
theorem gatesL_len(d:Dis)(kind:Int): ∀l,(vN d kind l).length≤l.length
 |[]=>Nat.le_refl _
 |o::l=>by
  have h1:=gate1_len d kind o
  have h2:=gatesL_len d kind l
  unfold vN at *
  rw[List.flatMap_cons,List.length_append,List.length_cons]
  omega
theorem gatesL_take{d:Dis}{kind:Int}{l:List Ord'}{k:Nat}{o:Ord'}(h:l[k]?=some o):vN d kind (l.take (k+1))=vN d kind (l.take k)++gate1 d kind o:=by
 unfold vN
 rw[List.take_add_one,h]
 simp
theorem gates_c(d:Dis)(l:List Ord')(bm:Nat)(S D:List (List Int))(kind:Int)(σ:List Ent):SCall prog 84 [tblV d l bm S D,.int .i64 kind] σ (fun r τ=> ∃b2 b3,r=.fn (.func 134) [] [.ptr b2 0,.ptr b3 0]∧τ=.cells b3 [.int .i64 kind] 3::.cells b2 (tblC d l bm S D) 178::σ):=by
 refine zZ func84 rfl (by simp) ?_
 refine yW ?_;intros
 rename Nat=>b3;revert b3;rename Nat=>b2;revert b2
 intro b2 b3
 refine zS (σ3:=.cells b3 [.int .i64 kind] 3::.cells b2 (tblC d l bm S D) 178::σ) .nil zG zJ ?_
 exact zY ⟨b2,b3,rfl,rfl⟩
theorem gates1_c(d:Dis)(l:List Ord')(hl:l.length≤4096)(hlx: ∀o∈l,o.outlet=false→0≤o.index∧o.index<d.R.length)(bm:Nat)(S D:List (List Int))(kind:Int)(b b2 b3:Nat)(v:Value)(A:List Flt)(hA:A.length≤100000)(σ:List Ent)(m2:Ent.cells b2 (tblC d l bm S D) 178∈σ)(m3:Ent.cells b3 [.int .i64 kind] 3∈σ):
  SCall prog 134 [colF b,.ptr b2 0,.ptr b3 0] (.cells b [.slv v] 90::.row v 73 5 (A.map fltC)::σ) (fun _ τ=> ∃v',τ=.cells b [.slv v'] 90::.row v' 73 5 ((A++vN d kind l).map fltC)::σ):=by
 refine zZ func134 rfl (by simp) ?_
 have hlm:(l.map ordC).length=l.length:=List.length_map _
 refine uZ ?_;and_intros<;>first|exact nl|intros
 refine zU (fun(z:Nat×Value×List Flt)=>(⟨[(0,colF b),(1,.ptr b2 0),(2,.ptr b3 0),(9,ords l),(10,.int .i64 l.length),(11,.int .i64 (z.1:Nat))],.cells b [.slv z.2.1] 90::.row z.2.1 73 5 (z.2.2.map fltC)::σ,[],f134.ntmps⟩:St)) (fun z=>z.1≤l.length∧z.2.2=A++vN d kind (l.take z.1)) (fun z=>l.length-z.1) (0,v,A) (⟨Nat.zero_le _,by simp[vN]⟩) (St.le_of zC yY) ?_
 intro z hI
 obtain⟨k,w,B⟩:=z
 obtain⟨hI,hIB⟩:=hI
 dsimp only at hI hIB ⊢
 by_cases hk:k<l.length
 rotate_left
 ·obtain rfl:k=l.length:=by omega
  rw[List.take_length]at hIB
  rw[←hIB]
  clear hlx hIB
  refine uZ ?_;and_intros<;>first|exact nl|intros
  refine zS (σ3:=.cells b [.slv w] 90::.row w 73 5 (B.map fltC)::σ) .nil zG zJ ?_
  exact zY ⟨w,rfl⟩
 obtain⟨o,ho⟩:=zH hk
 have go:=ord_get ho
 have hB:B.length≤1000000:=by
  have:=gatesL_len d kind (l.take k)
  rw[List.length_take]at this
  rw[hIB,List.length_append]
  omega
 have hnx:A++vN d kind (l.take (k+1))=B++gate1 d kind o:=by rw[gatesL_take ho,hIB,List.append_assoc]
 have hix:=hlx o (List.mem_of_getElem? ho)
 clear hlx ho hIB
 obtain⟨oh,oi,ol,ob⟩:=o
 replace go:(l.map ordC)[k]?=some [.int .i64 oh,.int .i64 oi,.int .i64 ol,.bool ob]:=go
 unfold gate1 at hnx
 dsimp only at hnx hix
 cases ob with
 |true=>
  rw[if_pos rfl,List.append_nil]at hnx
  refine yW ?_;intros
  exact⟨(k+1,w,B),⟨hk,hnx.symm⟩,by dsimp only;omega,(St.le_of zC zJ)⟩
 |false=>
  obtain⟨h1,h2⟩:=hix rfl
  obtain⟨i,rfl⟩: ∃i:Nat,oi=i:=⟨oi.toNat,by omega⟩
  obtain⟨x,hx⟩:=zH (show i<d.R.length by omega)
  have gx:(d.R.map rchC)[i]?=some (rchC x):=by rw[List.getElem?_map,hx];rfl
  rw[if_neg (by decide),Int.toNat_natCast,hx]at hnx
  dsimp only at hnx
  have cc:=fun(y:Flt) {ba bb:Nat} {Za Zb:List AV} {Ta Tb:TypeId}=>SCall.front [.cells ba Za Ta,.cells bb Zb Tb] (col_c y b w B (by omega) σ)
  simp only[List.cons_append,List.nil_append]at cc
  clear hx
  refine yW ?_;intros
  rename Nat=>b5;revert b5
  intro b5
  refine yB anyK [16] 17 rfl (by kernel_rfl) rfl ?_
  simp only[List.take_succ_cons,List.take_zero,List.drop_succ_cons,List.drop_zero]
  by_cases hk2:kind=2
  ·rw[if_pos hk2]at hnx
   by_cases hw:ol<x.siphon
   ·rw[if_pos hw]at hnx
    have cc:=fun {ba bb:Nat} {Za Zb:List AV} {Ta Tb:TypeId}=>cc ⟨kind,oh,i,ol,x.siphon⟩ (ba:=ba) (bb:=bb) (Za:=Za) (Zb:=Zb) (Ta:=Ta) (Tb:=Tb)
    repeat' first|(refine xD (.call {callee:=.value (.tmp _),args:=_,argTypes:=_}) ?_;refine uC rfl rfl rfl rfl (zQ rfl rfl (zX (by kernel_rfl)) cc) ?_;rintro _ _ ⟨σ2,rfl,w2,rfl,rfl⟩)|(refine yX ?_;intros)|(refine yV ?_ ?_<;>(intro z;cases z with|_ h)<;>intro hp)|exact nl|cases ‹BV _ _›|fail
    exact⟨(k+1,w2,B++[⟨kind,oh,i,ol,x.siphon⟩]),⟨hk,hnx.symm⟩,by dsimp only;omega,(St.le_of zC zJ)⟩
   ·rw[if_neg hw,List.append_nil]at hnx
    clear cc
    repeat' first|(refine xV ?_;and_intros<;>first|exact nl|intros)|cases ‹BV _ _›|fail
    exact⟨(k+1,w,B),⟨hk,hnx.symm⟩,by dsimp only;omega,(St.le_of zC zJ)⟩
  ·rw[if_neg hk2]at hnx
   by_cases hw:x.cap<ol
   ·rw[if_pos hw]at hnx
    have cc:=fun {ba bb:Nat} {Za Zb:List AV} {Ta Tb:TypeId}=>cc ⟨kind,oh,i,ol,x.cap⟩ (ba:=ba) (bb:=bb) (Za:=Za) (Zb:=Zb) (Ta:=Ta) (Tb:=Tb)
    repeat' first|(refine xD (.call {callee:=.value (.tmp _),args:=_,argTypes:=_}) ?_;refine uC rfl rfl rfl rfl (zQ rfl rfl (zX (by kernel_rfl)) cc) ?_;rintro _ _ ⟨σ2,rfl,w2,rfl,rfl⟩)|(refine yX ?_;intros)|(refine yV ?_ ?_<;>(intro z;cases z with|_ h)<;>intro hp)|exact nl|fail
    exact⟨(k+1,w2,B++[⟨kind,oh,i,ol,x.cap⟩]),⟨hk,hnx.symm⟩,by dsimp only;omega,(St.le_of zC zJ)⟩
   ·rw[if_neg hw,List.append_nil]at hnx
    clear cc
    refine uZ ?_;and_intros<;>first|exact nl|intros
    exact⟨(k+1,w,B),⟨hk,hnx.symm⟩,by dsimp only;omega,(St.le_of zC zJ)⟩
open Go.WideMaps
structure TabOk(R n:Nat)(S:List (List Int))(sF:Nat→Nat→Int):Prop where
 len:S.length≤64
 at': ∀r,r<R→ ∃L:List Int,S[r]?=some L∧L.length≤5000∧ ∀h,h<n→L[h]?=some (sF r h)
 lo: ∀r h,r<R→h<n→0≤sF r h∧sF r h≤4611686018427387
theorem mats_get{S:List (List Int)}{r:Nat}{L:List Int}(h:S[r]?=some L):(S.map fun x=>[ints x])[r]?=some [ints L]:=by rw[List.getElem?_map,h];rfl
def bank1(d:Dis)(sF:Nat→Nat→Int)(p:Nat×Nat):List Flt:=match d.R[p.2]? with
 |none=>[]
 |some x=>if x.bank<sF p.2 (p.1+1)-sF p.2 (p.1+1-x.delay.toNat)then [⟨3,p.1,p.2,sF p.2 (p.1+1)-sF p.2 (p.1+1-x.delay.toNat),x.bank⟩]else []
def kX(d:Dis)(sF:Nat→Nat→Int)(P:List (Nat×Nat)):List Flt:=P.flatMap (bank1 d sF)
def water1(d:Dis)(f:BkF)(dF:Nat→Nat→Int)(p:Nat×Nat):List Flt:=if arrF d f p.1 p.2<dF p.2 p.1 then [⟨5,p.1,p.2,dF p.2 p.1,arrF d f p.1 p.2⟩]else []
def waterL(d:Dis)(f:BkF)(dF:Nat→Nat→Int)(P:List (Nat×Nat)):List Flt:=P.flatMap (water1 d f dF)
theorem flat_len{α β:Type}{g:α→List β}(h: ∀x,(g x).length≤1): ∀l:List α,(l.flatMap g).length≤l.length
 |[]=>Nat.le_refl _
 |x::l=>by
  have h1:=h x
  have h2:=flat_len h l
  rw[List.flatMap_cons,List.length_append,List.length_cons]
  omega
theorem flat_take{α β:Type}{g:α→List β}{l:List α}{k:Nat}{x:α}(h:l[k]?=some x):(l.take (k+1)).flatMap g=(l.take k).flatMap g++g x:=by
 rw[List.take_add_one,h]
 simp
theorem bank1_len(d:Dis)(sF:Nat→Nat→Int)(p:Nat×Nat):(bank1 d sF p).length≤1:=by
 unfold bank1
 repeat' split
 all_goals simp
theorem water1_len(d:Dis)(f:BkF)(dF:Nat→Nat→Int)(p:Nat×Nat):(water1 d f dF p).length≤1:=by
 unfold water1
 split<;>simp
theorem plsFrom_len(N R:Nat):(yK N R 0).length=N*R:=by
 unfold yK
 rw[List.drop_zero]
 induction N with
 |zero=>simp
 |succ n ih=>rw[List.range_succ,List.flatMap_append,List.length_append,ih,Nat.add_mul];simp
theorem banks_c(d:Dis)(hd:yZ d=0)(hW:(yK d.hours.toNat d.R.length 0).length≤4096)(l:List Ord')(bm:Nat)(S D:List (List Int))(sF:Nat→Nat→Int)(hS:TabOk d.R.length (d.hours.toNat+1) S sF)(b:Nat)(v:Value)(A:List Flt)(hA:A.length≤100000)(σ:List Ent):
  SCall prog 85 [tblV d l bm S D,colF b] (.cells b [.slv v] 90::.row v 73 5 (A.map fltC)::σ) (fun _ τ=> ∃v',τ=.cells b [.slv v'] 90::.row v' 73 5 ((A++kX d sF (yK d.hours.toNat d.R.length 0)).map fltC)::σ):=by
 refine zZ func85 rfl (by simp) ?_
 have hvv:=(zP hd).2
 have hR:=(yC (zP hd).1).1
 have hH:=xF hvv
 have hH1:1≤d.hours:=by
  have hv:=hvv
  unfold yD tY at hv
  simp[vS]at hv
  omega
 have ce:=fun σ=>cells_c d l bm S D σ
 have hY:=fun bC=>cells1_c d (by omega) hR l bm S D bC
 have hpm:=fun p=>mem_plsFrom (N:=d.hours.toNat) (R:=d.R.length) (u:=0) (p:=p)
 generalize yK d.hours.toNat d.R.length 0=P at hW hY hpm ⊢
 clear hd
 repeat' first|(refine xD (.call {callee:=.value (.func 135),args:=_,argTypes:=_}) ?_;refine zK rfl rfl rfl (zQ rfl rfl (zX (by kernel_rfl)) (ce _)) ?_;rintro _ _ ⟨bC,rfl,rfl⟩)|(refine yX ?_;intros)|fail
 rename Nat=>bC;revert bC;rename Nat=>b3;revert b3;rename Nat=>b2;revert b2
 intro b2 b3 bC
 clear ce
 have hY:=hY bC
 refine yS (s':=⟨[(2,.ptr b2 0),(3,.ptr b3 0),(9,.fn (.func 202) [] [.ptr bC 0])],.cells bC (tblC d l bm S D) 178::.cells b3 [colF b] 181::.cells b2 (tblC d l bm S D) 178::.cells b [.slv v] 90::.row v 73 5 (A.map fltC)::σ,[],f85.ntmps⟩) (St.le_of zC yY) ?_
 refine pY rfl (zX (by kernel_rfl)) ?_
 intro D0 l0 fn
 show SCall _ _ _ (Ent.loop _ _ _ _ ?ee ?nn ?ps ?asg ?body _::_) _
 obtain⟨Lp,hL⟩: ∃L,L=Ent.loop l0 .ready none fn ?ee ?nn ?ps ?asg ?body D0:=⟨_,rfl⟩
 rw[←hL]
 refine SCall.mono (hY l0 _ (fun k τ=> ∃w B,B=A++kX d sF (P.take k)∧τ=Lp::.obj D0 (.deferred (some []))::.cells bC (tblC d l bm S D) 178::.cells b3 [colF b] 181::.cells b2 (tblC d l bm S D) 178::.cells b [.slv w] 90::.row w 73 5 (B.map fltC)::σ) (fun _=>False) ?_ ?_ ⟨v,A,by simp[kX],rfl⟩) ?_
 ·rintro k τ ⟨w,B,_,rfl⟩
  simp
 ·rintro k x τ hx ⟨w,B,hB,rfl⟩
  obtain⟨p,hp,rfl⟩: ∃p,P[k]?=some p∧x=[AV.int .i64 p.1,AV.int .i64 p.2]:=by
   rw[List.getElem?_map]at hx
   cases hc:P[k]? with
   |none=>rw[hc]at hx;cases hx
   |some c=>rw[hc]at hx;cases hx;exact⟨c,rfl,rfl⟩
  obtain⟨hp1,hp2⟩:=hpm p (List.mem_of_getElem? hp)
  have hBl:B.length≤1000000:=by
   have h1:=flat_len (bank1_len d sF) (P.take k)
   rw[List.length_take]at h1
   rw[hB,List.length_append]
   unfold kX
   omega
  have hnx:A++kX d sF (P.take (k+1))=B++bank1 d sF p:=by
   unfold kX at *
   rw[flat_take hp,hB,List.append_assoc]
  obtain⟨L,hL1,hL2,hL3⟩:=hS.at' p.2 hp2
  have gS:=mats_get hL1
  obtain⟨y,hy⟩:=zH hp2
  have gy:(d.R.map rchC)[p.2]?=some (rchC y):=by rw[List.getElem?_map,hy];rfl
  have hdl:=(RchOk.of (yA hvv hy)).dl
  have g1:=wU (hL3 (p.1+1) (by omega))
  have g2:=wU (hL3 (p.1+1-y.delay.toNat) (by omega))
  have l1:=hS.lo p.2 (p.1+1) hp2 (by omega)
  have l2:=hS.lo p.2 (p.1+1-y.delay.toNat) hp2 (by omega)
  unfold bank1 at hnx
  rw[hy]at hnx
  dsimp only at hnx
  have hSl:=hS.len
  obtain⟨h_,r⟩:=p
  dsimp only at *
  generalize sF r (h_+1)=s1 at hnx g1 l1
  generalize sF r (h_+1-y.delay.toNat)=s2 at hnx g2 l2
  obtain⟨q,hq⟩: ∃q,h_+1-y.delay.toNat=q:=⟨_,rfl⟩
  rw[hq]at g2
  have hmx:max 0 ((h_:Int)+1-y.delay)=(q:Nat):=by omega
  have cc:=fun(z:Flt) {e0 e1 e2 e3 e4 e5:Ent}=>SCall.front [e0,e1,e2,e3,e4,e5] (col_c z b w B (by omega) σ)
  simp only[List.cons_append,List.nil_append]at cc
  have hSm:(S.map fun x=>[ints x]).length=S.length:=List.length_map _
  have hLm:(L.map intC).length=L.length:=List.length_map _
  clear hY hpm hp hx hS hL1 hL3 hy hvv
  rw[hL]
  refine SRound.sub ?_
  refine sround yP rfl (by decide) ?_
  by_cases hw:y.bank<s1-s2
  ·rw[if_pos hw]at hnx
   have cc:=fun {e0 e1 e2 e3 e4 e5:Ent}=>cc ⟨3,h_,r,s1-s2,y.bank⟩ (e0:=e0) (e1:=e1) (e2:=e2) (e3:=e3) (e4:=e4) (e5:=e5)
   repeat' first|(refine xD (.call {callee:=.value (.tmp _),args:=_,argTypes:=_}) ?_;refine uC rfl rfl rfl rfl (zQ rfl rfl (zX (by kernel_rfl)) cc) ?_;rintro _ _ ⟨σ2,rfl,w2,rfl,rfl⟩)|(refine zB ?_;intros)|(refine xB ?_;intros)|refine zTn ?_|(refine yV ?_ ?_<;>(intro z;cases z with|_ h)<;>intro hp)|exact nl|fail
   subst hL
   exact⟨_,.cons _ (List.Sublist.refl _),.inl ⟨rfl,w2,_,hnx.symm,rfl⟩⟩
  ·rw[if_neg hw,List.append_nil]at hnx
   clear cc
   repeat' first|(refine zB ?_;intros)|(refine xB ?_;intros)|refine zTn ?_|(refine yV ?_ ?_<;>(intro z;cases z with|_ h)<;>intro hp)|exact nl|fail
   subst hL
   exact⟨_,.cons _ (List.Sublist.refl _),.inl ⟨rfl,w,B,hnx.symm,rfl⟩⟩
 ·rintro r τ (⟨w,B,hB,rfl⟩|hF)
  ·rw[List.length_map,List.take_length]at hB
   rw[←hB]
   rw[hL]
   refine RangeEnd.done .here ?_
   clear hY hpm hS
   refine yW ?_;intros
   refine zS (σ3:=.cells b [.slv w] 90::.row w 73 5 (B.map fltC)::σ) zmr zG zJ ?_
   exact zY ⟨w,rfl⟩
  ·exact hF.elim
open Go.WideMaps
theorem water_c(d:Dis)(hd:yZ d=0)(hW:(yK d.hours.toNat d.R.length 0).length≤4096)(l:List Ord')(bm:Nat)(S D:List (List Int))(dF:Nat→Nat→Int)(hS:TabOk d.R.length d.hours.toNat D dF)(f:BkF)(hfi:IntV f)(hfb: ∀q,0≤zV f q∧zV f q≤1073741824)(n:Nat)(b:Nat)(v:Value)(A:List Flt)(hA:A.length≤100000)(σ:List Ent)(m1:Ent.kmap bm [false,false,true] f n∈σ):
  SCall prog 87 [tblV d l bm S D,colF b] (.cells b [.slv v] 90::.row v 73 5 (A.map fltC)::σ) (fun _ τ=> ∃v',τ=.cells b [.slv v'] 90::.row v' 73 5 ((A++waterL d f dF (yK d.hours.toNat d.R.length 0)).map fltC)::σ):=by
 refine zZ func87 rfl (by simp) ?_
 have hvv:=(zP hd).2
 have hR:=(yC (zP hd).1).1
 have hH:=xF hvv
 have hH1:1≤d.hours:=by
  have hv:=hvv
  unfold yD tY at hv
  simp[vS]at hv
  omega
 have ce:=fun σ=>cells_c d l bm S D σ
 have hY:=fun bC=>cells1_c d (by omega) hR l bm S D bC
 have hpm:=fun p=>mem_plsFrom (N:=d.hours.toNat) (R:=d.R.length) (u:=0) (p:=p)
 generalize yK d.hours.toNat d.R.length 0=P at hW hY hpm ⊢
 repeat' first|(refine xD (.call {callee:=.value (.func 135),args:=_,argTypes:=_}) ?_;refine zK rfl rfl rfl (zQ rfl rfl (zX (by kernel_rfl)) (ce _)) ?_;rintro _ _ ⟨bC,rfl,rfl⟩)|(refine yX ?_;intros)|fail
 rename Nat=>bC;revert bC;rename Nat=>b3;revert b3;rename Nat=>b2;revert b2
 intro b2 b3 bC
 clear ce
 have hY:=hY bC
 refine yS (s':=⟨[(2,.ptr b2 0),(3,.ptr b3 0),(9,.fn (.func 202) [] [.ptr bC 0])],.cells bC (tblC d l bm S D) 178::.cells b3 [colF b] 181::.cells b2 (tblC d l bm S D) 178::.cells b [.slv v] 90::.row v 73 5 (A.map fltC)::σ,[],f87.ntmps⟩) (St.le_of zC yY) ?_
 refine pY rfl (zX (by kernel_rfl)) ?_
 intro D0 l0 fn
 show SCall _ _ _ (Ent.loop _ _ _ _ ?ee ?nn ?ps ?asg ?body _::_) _
 obtain⟨Lp,hL⟩: ∃L,L=Ent.loop l0 .ready none fn ?ee ?nn ?ps ?asg ?body D0:=⟨_,rfl⟩
 rw[←hL]
 refine SCall.mono (hY l0 _ (fun k τ=> ∃w B,B=A++waterL d f dF (P.take k)∧τ=Lp::.obj D0 (.deferred (some []))::.cells bC (tblC d l bm S D) 178::.cells b3 [colF b] 181::.cells b2 (tblC d l bm S D) 178::.cells b [.slv w] 90::.row w 73 5 (B.map fltC)::σ) (fun _=>False) ?_ ?_ ⟨v,A,by simp[waterL],rfl⟩) ?_
 ·rintro k τ ⟨w,B,_,rfl⟩
  simp
 ·rintro k x τ hx ⟨w,B,hB,rfl⟩
  obtain⟨p,hp,rfl⟩: ∃p,P[k]?=some p∧x=[AV.int .i64 p.1,AV.int .i64 p.2]:=by
   rw[List.getElem?_map]at hx
   cases hc:P[k]? with
   |none=>rw[hc]at hx;cases hx
   |some c=>rw[hc]at hx;cases hx;exact⟨c,rfl,rfl⟩
  obtain⟨hp1,hp2⟩:=hpm p (List.mem_of_getElem? hp)
  have hBl:B.length≤1000000:=by
   have h1:=flat_len (water1_len d f dF) (P.take k)
   rw[List.length_take]at h1
   rw[hB,List.length_append]
   unfold waterL
   omega
  have hnx:A++waterL d f dF (P.take (k+1))=B++water1 d f dF p:=by
   unfold waterL at *
   rw[flat_take hp,hB,List.append_assoc]
  obtain⟨L,hL1,hL2,hL3⟩:=hS.at' p.2 hp2
  have gS:=mats_get hL1
  have g1:=wU (hL3 p.1 hp1)
  have l1:=hS.lo p.2 p.1 hp2 hp1
  have ca:=fun {σ:List Ent} (m:Ent.kmap bm [false,false,true] f n∈σ)=>arrives_c d hd l bm S D f hfi hfb n p.2 p.1 hp2 (by omega) m
  unfold water1 at hnx
  have hSl:=hS.len
  obtain⟨h_,r⟩:=p
  dsimp only at *
  generalize dF r h_=s1 at hnx g1 l1
  generalize arrF d f h_ r=s2 at hnx ca
  have cc:=fun(z:Flt) {e0 e1 e2 e3 e4:Ent}=>SCall.front [e0,e1,e2,e3,e4] (col_c z b w B (by omega) σ)
  simp only[List.cons_append,List.nil_append]at cc
  have hSm:(D.map fun x=>[ints x]).length=D.length:=List.length_map _
  have hLm:(L.map intC).length=L.length:=List.length_map _
  clear hY hpm hp hx hS hL1 hL3 hvv hfb hd
  rw[hL]
  refine SRound.sub ?_
  refine sround yP rfl (by decide) ?_
  refine yW ?_;intros
  refine wH anyK [] rfl rfl ?_
  by_cases hw:s2<s1
  ·rw[if_pos hw]at hnx
   have cc:=fun {e0 e1 e2 e3 e4:Ent}=>cc ⟨5,h_,r,s1,s2⟩ (e0:=e0) (e1:=e1) (e2:=e2) (e3:=e3) (e4:=e4)
   repeat' first|(refine xD (.call {callee:=.value (.tmp _),args:=_,argTypes:=_}) ?_;refine uC rfl rfl rfl rfl (zQ rfl rfl (zX (by kernel_rfl)) cc) ?_;rintro _ _ ⟨σ2,rfl,w2,rfl,rfl⟩)|(refine zB ?_;intros)|(apply zvI;exact zD;rfl;intro σ' hl;(exact zQ rfl rfl (zX (by kernel_rfl)) (ca yP)))|(refine yV ?_ ?_<;>(intro z;cases z with|_ h)<;>intro hp)|exact nl|fail
   subst hL
   exact⟨_,List.Sublist.refl _,.inl ⟨rfl,w2,_,hnx.symm,rfl⟩⟩
  ·rw[if_neg hw,List.append_nil]at hnx
   clear cc
   repeat' first|(refine zB ?_;intros)|(apply zvI;exact zD;rfl;intro σ' hl;(exact zQ rfl rfl (zX (by kernel_rfl)) (ca yP)))|(refine xB ?_;intros)|(refine yV ?_ ?_<;>(intro z;cases z with|_ h)<;>intro hp)|exact nl|fail
   subst hL
   exact⟨_,List.Sublist.refl _,.inl ⟨rfl,w,B,hnx.symm,rfl⟩⟩
 ·rintro r τ (⟨w,B,hB,rfl⟩|hF)
  ·rw[List.length_map,List.take_length]at hB
   rw[←hB]
   rw[hL]
   refine RangeEnd.done .here ?_
   clear hY hpm hS
   refine yW ?_;intros
   refine zS (σ3:=.cells b [.slv w] 90::.row w 73 5 (B.map fltC)::σ) zmr zG zJ ?_
   exact zY ⟨w,rfl⟩
  ·exact hF.elim
def tankL(d:Dis)(sF:Nat→Nat→Int):List Nat→List Flt
 |[]=>[]
 |h::l=>if d.start<sF 0 (h+1)then [⟨4,h,0,sF 0 (h+1),d.start⟩]else tankL d sF l
theorem tank_c(d:Dis)(hd:yZ d=0)(hR0:0<d.R.length)(l:List Ord')(bm:Nat)(S D:List (List Int))(sF:Nat→Nat→Int)(hS:TabOk d.R.length (d.hours.toNat+1) S sF)(b:Nat)(v:Value)(A:List Flt)(hA:A.length≤100000)(σ:List Ent):
  SCall prog 86 [tblV d l bm S D,colF b] (.cells b [.slv v] 90::.row v 73 5 (A.map fltC)::σ) (fun _ τ=> ∃v',τ=.cells b [.slv v'] 90::.row v' 73 5 ((A++tankL d sF (List.range d.hours.toNat)).map fltC)::σ):=by
 refine zZ func86 rfl (by simp) ?_
 have hH:=xF (zP hd).2
 have hH1:1≤d.hours:=by
  have hv:=(zP hd).2
  unfold yD tY at hv
  simp[vS]at hv
  omega
 obtain⟨N,hN⟩: ∃N:Nat,d.hours=N:=⟨d.hours.toNat,by omega⟩
 rw[hN,Int.toNat_natCast]at hS ⊢
 obtain⟨L,hL1,hL2,hL3⟩:=hS.at' 0 hR0
 have gS:=mats_get hL1
 have hSl:=hS.len
 have hLm:(L.map intC).length=L.length:=List.length_map _
 have hSm:(S.map fun x=>[ints x]).length=S.length:=List.length_map _
 clear hd hS hL1
 refine yW ?_;intros
 rename Nat=>b2;revert b2
 intro b2
 refine zU (fun(z:Nat)=>(⟨[(1,colF b),(2,.ptr b2 0),(8,.int .i64 d.hours),(9,.int .i64 (z:Nat))],.cells b2 (tblC d l bm S D) 178::.cells b [.slv v] 90::.row v 73 5 (A.map fltC)::σ,[],f86.ntmps⟩:St)) (fun z=>z≤N∧tankL d sF (List.range N)=tankL d sF ((List.range N).drop z)) (fun z=>N-z) 0 (⟨Nat.zero_le _,rfl⟩) (St.le_of zC yY) ?_
 intro z hI
 obtain⟨hI1,hI2⟩:=hI
 by_cases hz:z<N
 ·have hlz:(z:Int)<d.hours:=by omega
  have g1:=wU (hL3 (z+1) (by omega))
  rw[qU hz,tankL]at hI2
  generalize sF 0 (z+1)=s1 at g1 hI2
  have cc:=fun(y:Flt) {e0:Ent}=>SCall.front [e0] (col_c y b v A (by omega) σ)
  simp only[List.cons_append,List.nil_append]at cc
  clear hL3
  by_cases hw:d.start<s1
  ·rw[if_pos hw]at hI2
   rw[hI2]
   have cc:=fun {e0:Ent}=>cc ⟨4,z,0,s1,d.start⟩ (e0:=e0)
   clear hI2
   repeat' first|(refine xD (.call {callee:=.value (.tmp _),args:=_,argTypes:=_}) ?_;refine zK rfl rfl rfl (zQ rfl rfl (zX (by kernel_rfl)) cc) ?_;rintro _ _ ⟨σ2,rfl,w2,rfl,rfl⟩)|(refine yX ?_;intros)|(refine yV ?_ ?_<;>(intro z;cases z with|_ h)<;>intro hp)|exact nl|fail
   refine zS (σ3:=.cells b [.slv w2] 90::.row w2 73 5 ((A++[(⟨4,z,0,s1,d.start⟩:Flt)]).map fltC)::σ) .nil zG zJ ?_
   exact zY ⟨w2,rfl⟩
  ·rw[if_neg hw]at hI2
   clear cc
   refine yW ?_;intros
   exact⟨z+1,⟨hz,hI2⟩,by omega,(St.le_of zC zJ)⟩
 ·obtain rfl:z=N:=by omega
  rw[show (List.range z).drop z=[] by simp,tankL]at hI2
  rw[hI2,List.append_nil]
  clear hL3
  have hge9:¬ (z:Int)<d.hours:=by omega
  refine yW ?_;intros
  refine zS (σ3:=.cells b [.slv v] 90::.row v 73 5 (A.map fltC)::σ) .nil zG zJ ?_
  exact zY ⟨v,rfl⟩
open Go.WideMaps
def clStep(f:BkF)(c:Clm):BkF:=vY f (K3 c.hour c.farm true) c.litres
def clF(C:List Clm):BkF:=C.foldl clStep (fun _=>none)
theorem clF_int: ∀{C:List Clm} {f:BkF},IntV f→IntV (C.foldl clStep f)
 |[],_,h=>h
 |_::C,f,h=>clF_int (C:=C) (h.add _ _)
theorem clF_le{B:Int}: ∀{C:List Clm} {f:BkF},(∀c∈C,1≤c.litres∧c.litres≤1073741824)→(∀q,0≤zV f q∧zV f q≤B)→ ∀q,0≤zV (C.foldl clStep f) q∧zV (C.foldl clStep f) q≤B+C.length*1073741824
 |[],f,_,h,q=>by simpa using h q
 |c::C,f,ho,h,q=>by
  obtain⟨h1,h2⟩:=ho c (by simp)
  have:=clF_le (B:=B+1073741824) (C:=C) (f:=clStep f c) (fun x hx=>ho x (by simp[hx])) (fun q=>by
   unfold clStep
   rw[wD]
   have:=h q
   split<;>omega) q
  simp only[List.foldl_cons,List.length_cons]
  omega
def unmet1(f g:BkF)(p:Nat×Nat):List Flt:=if zV f (K3 p.1 p.2 true)<zV g (K3 p.1 p.2 true)then [⟨6,p.1,p.2,zV f (K3 p.1 p.2 true),zV g (K3 p.1 p.2 true)⟩]else []
def unmetL(f g:BkF)(P:List (Nat×Nat)):List Flt:=P.flatMap (unmet1 f g)
theorem unmet1_len(f g:BkF)(p:Nat×Nat):(unmet1 f g p).length≤1:=by
 unfold unmet1
 split<;>simp
theorem unmet_c(d:Dis)(l:List Ord')(bm:Nat)(S D:List (List Int))(C:List Clm)(σ:List Ent):SCall prog 88 [tblV d l bm S D,clms C] σ (fun r τ=> ∃b2 b3,r=.fn (.func 137) [] [.ptr b3 0,.ptr b2 0]∧τ=.cells b3 [clms C] 39::.cells b2 (tblC d l bm S D) 178::σ):=by
 refine zZ func88 rfl (by simp) ?_
 refine yW ?_;intros
 rename Nat=>b3;revert b3;rename Nat=>b2;revert b2
 intro b2 b3
 refine zS (σ3:=.cells b3 [clms C] 39::.cells b2 (tblC d l bm S D) 178::σ) .nil zG zJ ?_
 exact zY ⟨b2,b3,rfl,rfl⟩
theorem unmet1_c(d:Dis)(hd:yZ d=0)(l:List Ord')(bm:Nat)(S D:List (List Int))(C:List Clm)(hC:ClmsOk d C)(f:BkF)(hfi:IntV f)(n:Nat)(b b2 b3:Nat)(v:Value)(A:List Flt)(hA:A.length≤100000)(σ:List Ent)(m1:Ent.kmap bm [false,false,true] f n∈σ)(m2:Ent.cells b2 (tblC d l bm S D) 178∈σ)(m3:Ent.cells b3 [clms C] 39∈σ):
  SCall prog 137 [colF b,.ptr b3 0,.ptr b2 0] (.cells b [.slv v] 90::.row v 73 5 (A.map fltC)::σ) (fun _ τ=> ∃v',τ=.cells b [.slv v'] 90::.row v' 73 5 ((A++unmetL f (clF C) (yK d.hours.toNat d.F.length 0)).map fltC)::σ):=by
 refine zZ func137 rfl (by simp) ?_
 have hvv:=(zP hd).2
 have hF:=(yC (zP hd).1).2.1
 have hH:=xF hvv
 have hCl:=hC.len
 have hH1:1≤d.hours:=by
  have hv:=hvv
  unfold yD tY at hv
  simp[vS]at hv
  omega
 have hint: ∀k,IntV (clF (C.take k)):=fun k=>clF_int (fun k x h=>by cases h)
 have hbd: ∀k q,0≤zV (clF (C.take k)) q∧zV (clF (C.take k)) q≤4398046511104:=fun k q=>by
  have:=clF_le (B:=0) (C:=C.take k) (f:=fun _=>none) (fun c hc=>(hC.ok c (List.mem_of_mem_take hc)).lt) (fun q=>by simp[zV]) q
  rw[List.length_take]at this
  unfold clF
  omega
 have hco:=hC.ok
 have hlm:(C.map clmC).length=C.length:=List.length_map _
 have hFm:(d.F.map frmC).length=d.F.length:=List.length_map _
 clear hd hC hvv
 repeat' first|(refine xD (.makeMap _ _) ?_;refine tD [false,false,true] rfl rfl rfl (vE [false,false,true]) ?_;intro bm)|(refine yX ?_;intros)|fail
 rename Nat=>bw;revert bw
 intro bw
 refine zU (fun(z:Nat×Nat)=>(⟨[(0,colF b),(1,.ptr b3 0),(2,.ptr b2 0),(4,.mp bw),(11,clms C),(12,.int .i64 C.length),(13,.int .i64 (z.1:Nat))],.kmap bw [false,false,true] (clF (C.take z.1)) z.2::.cells b [.slv v] 90::.row v 73 5 (A.map fltC)::σ,[],f137.ntmps⟩:St)) (fun z=>z.1≤C.length) (fun z=>C.length-z.1) (0,0) (Nat.zero_le _) (St.le_of zC yY) ?_
 intro z hI
 obtain⟨k,n1⟩:=z
 dsimp only at hI ⊢
 by_cases hk:k<C.length
 ·obtain⟨c,hc⟩:=zH hk
  have gc:=pT hc
  obtain⟨_,⟨a,ea,hal⟩,hhr,hlt⟩:=hco c (List.mem_of_getElem? hc)
  have hnx:clF (C.take (k+1))=vY (clF (C.take k)) (K3 c.hour a true) c.litres:=by
   unfold clF
   rw[List.take_add_one,hc,←ea]
   simp[clStep]
  have hfi:=hint k
  have hbn:=hbd k (K3 c.hour a true)
  clear hint hbd hco hc
  obtain⟨cr,ca,ch,cl,ck⟩:=c
  dsimp only at ea hhr hlt hnx hbn
  subst ea
  generalize clF (C.take k)=g at hnx hfi hbn ⊢
  have hkf:KFit [false,false,true] (K3 ch a true):=fitK3 (by omega) (by omega)
  refine yW ?_;intros
  rename Nat=>b6;revert b6
  intro b6
  refine yB (fun e=>e=.cells b6 (clmC ⟨cr,a,ch,cl,ck⟩) 57) [6,10] 12 rfl (by kernel_rfl) rfl ?_
  simp only[List.take_succ_cons,List.take_zero,List.drop_succ_cons,List.drop_zero]
  repeat' first|(refine zgd ?_;first|(refine xH rfl rfl (zR (z:=.i 0) (k:=K3 ch a true) rfl kF kE rfl rfl yP rfl rfl hkf (xZ hfi _) rfl) ?_)|(refine yN rfl rfl (wS (z:=.i 0) (k:=K3 ch a true) rfl kF kE rfl rfl rfl rfl hkf (fun _=>qJ)) ?_;rintro _ _ ⟨es,clock,e,hE,he,hek⟩;refine⟨zks,?_⟩)|(refine xH rfl rfl (xC (z:=.i 0) (k:=K3 ch a true) rfl kF kE rfl rfl hE yP rfl rfl hkf (vH hfi _) rfl) ?_))|(refine xD (.entryStore _ _ _ _) ?_;refine yE rfl rfl (xQ (v:=.i _) hE he hek rfl rfl rfl rfl (qJ) (wA _ _ _ _)) ?_)|(refine yX ?_;intros)|refine vX rfl rfl rfl ?_ ?_|fail
  all_goals
   try rw[uE (show-9223372036854775808≤zV g (K3 ch a true)+cl∧zV g (K3 ch a true)+cl≤9223372036854775807 by omega)]
   exact⟨(k+1,cntK g (K3 ch a true) n1),hk,by dsimp only;omega,by dsimp only;rw[hnx];exact(St.le_of zC zJ)⟩
 obtain rfl:k=C.length:=by omega
 have hgi:=hint C.length
 rw[List.take_length]at hgi ⊢
 clear hint hbd hco
 obtain⟨N,hN⟩: ∃N:Nat,d.hours=N:=⟨d.hours.toNat,by omega⟩
 rw[hN,Int.toNat_natCast]
 generalize clF C=g at hgi ⊢
 obtain⟨X,hX⟩: ∃X,X=A++unmetL f g (yK N d.F.length 0):=⟨_,rfl⟩
 rw[←hX]
 have hXl:X.length≤10000000:=by
  have h1:=flat_len (unmet1_len f g) (yK N d.F.length 0)
  rw[plsFrom_len]at h1
  have h2:N*d.F.length≤4096*600:=Nat.mul_le_mul (by omega) hF
  rw[hX,List.length_append]
  unfold unmetL
  omega
 refine yW ?_;intros
 refine zU (fun(z:Nat×Value×List Flt)=>(⟨[(0,colF b),(1,.ptr b3 0),(2,.ptr b2 0),(4,.mp bw),(32,.int .i64 d.hours),(33,.int .i64 (z.1:Nat))],.kmap bw [false,false,true] g n1::.cells b [.slv z.2.1] 90::.row z.2.1 73 5 (z.2.2.map fltC)::σ,[],f137.ntmps⟩:St)) (fun z=>z.1≤N∧z.2.2++unmetL f g (yK N d.F.length z.1)=X) (fun z=>N-z.1) (0,v,A) (⟨Nat.zero_le _,hX.symm⟩) (St.le_of zC yY) ?_
 intro z hI
 obtain⟨u,w,B⟩:=z
 obtain⟨hI1,hI2⟩:=hI
 dsimp only at hI1 hI2 ⊢
 clear hX
 by_cases hu:u<N
 rotate_left
 ·obtain rfl:u=N:=by omega
  rw[plsFrom_end (Nat.le_refl _)]at hI2
  simp only[unmetL,List.flatMap_nil,List.append_nil]at hI2
  subst hI2
  have hge:¬ (u:Int)<d.hours:=by omega
  refine yW ?_;intros
  refine zS (σ3:=.cells b [.slv w] 90::.row w 73 5 (B.map fltC)::σ) .nil zG zJ ?_
  exact zY ⟨w,rfl⟩
 have hlu:(u:Int)<d.hours:=by omega
 rw[plsFrom_next hu]at hI2
 obtain⟨Q0,hQ0⟩: ∃Q,Q=yK N d.F.length (u+1):=⟨_,rfl⟩
 rw[←hQ0]at hI2
 refine yW ?_;intros
 refine zU (fun(z:Nat×Value×List Flt)=>(⟨[(0,colF b),(1,.ptr b3 0),(2,.ptr b2 0),(4,.mp bw),(7,.int .i64 (u:Nat)),(32,.int .i64 d.hours),(33,.int .i64 (u:Nat)),(39,.int .i64 d.F.length),(40,.int .i64 (z.1:Nat))],.kmap bw [false,false,true] g n1::.cells b [.slv z.2.1] 90::.row z.2.1 73 5 (z.2.2.map fltC)::σ,[],f137.ntmps⟩:St)) (fun z=>z.1≤d.F.length∧z.2.2++unmetL f g ((((List.range d.F.length).drop z.1).map fun i=>(u,i))++Q0)=X) (fun z=>d.F.length-z.1) (0,w,B) (⟨Nat.zero_le _,hI2⟩) (St.le_of zC yY) ?_
 intro z hI
 clear hI2
 obtain⟨i,w,B⟩:=z
 obtain⟨hJ1,hJ2⟩:=hI
 dsimp only at hJ1 hJ2 ⊢
 by_cases hi:i<d.F.length
 rotate_left
 ·obtain rfl:i=d.F.length:=by omega
  rw[List.drop_of_length_le (by simp),List.map_nil,List.nil_append]at hJ2
  refine yW ?_;intros
  exact⟨(u+1,w,B),⟨hu,by dsimp only;rw[←hQ0];exact hJ2⟩,by dsimp only;omega,(St.le_of zC zJ)⟩
 rw[qU hi,List.map_cons,List.cons_append]at hJ2
 obtain⟨Q,hQ⟩: ∃Q,Q=(((List.range d.F.length).drop (i+1)).map fun i=>(u,i))++Q0:=⟨_,rfl⟩
 rw[←hQ]at hJ2
 unfold unmetL at hJ2 ⊢
 rw[List.flatMap_cons,←List.append_assoc]at hJ2
 have hBl:B.length≤10000000:=by
  have:=congrArg List.length hJ2
  rw[List.length_append,List.length_append]at this
  omega
 have hkf:KFit [false,false,true] (K3 u i true):=fitK3 (by omega) (by omega)
 have hvF:=xZ hfi (K3 u i true)
 have hvG:=xZ hgi (K3 u i true)
 unfold unmet1 at hJ2
 dsimp only at hJ2
 generalize zV f (K3 u i true)=s1 at hJ2 hvF
 generalize zV g (K3 u i true)=s2 at hJ2 hvG
 refine yW ?_;intros
 rename Nat=>b9;revert b9
 intro b9
 have cc:=fun(y:Flt) {e0 e1:Ent}=>SCall.front [e0,e1] (col_c y b w B (by omega) σ)
 simp only[List.cons_append,List.nil_append]at cc
 refine yB anyK [] 20 rfl (by kernel_rfl) rfl ?_
 simp only[List.take_succ_cons,List.take_zero,List.drop_succ_cons,List.drop_zero]
 by_cases hw:s1<s2
 ·rw[if_pos hw]at hJ2
  have cc:=fun {e0 e1:Ent}=>cc ⟨6,u,i,s1,s2⟩ (e0:=e0) (e1:=e1)
  repeat' first|(refine xD (.call {callee:=.value (.tmp _),args:=_,argTypes:=_}) ?_;refine uC rfl rfl rfl rfl (zQ rfl rfl (zX (by kernel_rfl)) cc) ?_;rintro _ _ ⟨σ2,rfl,w2,rfl,rfl⟩)|(refine zB ?_;intros)|(apply zvI;exact zD;rfl;intro σ' hl;first|((exact zR (z:=.i 0) (k:=K3 u i true) rfl kF kE rfl rfl yP rfl rfl hkf hvF rfl))|((exact zR (z:=.i 0) (k:=K3 u i true) rfl kF kE rfl rfl yP rfl rfl hkf hvG rfl)))|(refine xB ?_;intros)|(refine yV ?_ ?_<;>(intro z;cases z with|_ h)<;>intro hp)|exact nl|fail
  exact⟨(i+1,w2,_),⟨hi,by dsimp only;rw[←hQ];exact hJ2⟩,by dsimp only;omega,(St.le_of zC zJ)⟩
 ·rw[if_neg hw,List.append_nil]at hJ2
  clear cc
  repeat' first|(refine zB ?_;intros)|(apply zvI;exact zD;rfl;intro σ' hl;first|((exact zR (z:=.i 0) (k:=K3 u i true) rfl kF kE rfl rfl yP rfl rfl hkf hvF rfl))|((exact zR (z:=.i 0) (k:=K3 u i true) rfl kF kE rfl rfl yP rfl rfl hkf hvG rfl)))|(refine xB ?_;intros)|(refine yV ?_ ?_<;>(intro z;cases z with|_ h)<;>intro hp)|exact nl|fail
  exact⟨(i+1,w,B),⟨hi,by dsimp only;rw[←hQ];exact hJ2⟩,by dsimp only;omega,(St.le_of zC zJ)⟩
inductive ShutR(v:Value)(x:AV):List Ent→List Ent→Prop
 |nil:ShutR v x [] []
 |same {e:Ent} {σ σ':List Ent} (h:ShutR v x σ σ'):ShutR v x (e::σ) (e::σ')
 |row {u:Value} {t:TypeId} {sz:Nat} {L L':List (List AV)} {σ σ':List Ent} (hc:Cv v x L.flatten L'.flatten) (hl:L'.length=L.length) (hs: ∀y∈L',y.length=sz) (h:ShutR v x σ σ'):ShutR v x (.row u t sz L::σ) (.row u t sz L'::σ')
theorem ShutR.refl{v:Value}{x:AV}: ∀σ:List Ent,ShutR v x σ σ
 |[]=>.nil
 |_::σ=>.same (ShutR.refl σ)
theorem ShutR.blocks{v:Value}{x:AV}{σ σ':List Ent}(h:ShutR v x σ σ'):σ'.map Ent.block=σ.map Ent.block:=by
 induction h with
 |nil=>rfl
 |same _ ih=>simp[ih]
 |row _ _ _ _ ih=>simp[ih,Ent.block]
theorem ShutR.ents{v:Value}{x:AV}{σ σ':List Ent}{M:Mem}{w:World}(hx:VRel M x v)(h:ShutR v x σ σ'):(∀e∈σ,e.at M w)→ ∀e∈σ',e.at M w:=by
 induction h with
 |nil=>exact fun h=>h
 |same _ ih=>
  intro ha e he
  rcases List.mem_cons.1 he with rfl|he
  ·exact ha _ (by simp)
  ·exact ih (fun e he=>ha e (by simp[he])) e he
 |@row u t sz L L' σ σ' hc hl hs _ ih=>
  intro ha e he
  rcases List.mem_cons.1 he with rfl|he
  ·obtain⟨xs,h1,h2,_⟩:=ha (.row u t sz L) (by simp)
   exact⟨xs,by rw[hl];exact h1,hc.rel hx h2,hs⟩
  ·exact ih (fun e he=>ha e (by simp[he])) e he
theorem Good.shutRE{X:Fx}{M:Mem}{σ σ':List Ent}{w:World}{v:Value}{x:AV}(hx:VRel M x v)(hg:Good X M σ w)(h:ShutR v x σ σ'):Good X M σ' w:=by
 have hb:=h.blocks
 refine⟨hg.os,hg.tape,hg.output,hg.mem,hg.frm,hg.dis,h.ents hx hg.ent,fun e he b hb'=>?_,?_⟩
 ·have hm:some b∈σ'.map Ent.block:=List.mem_map.2 ⟨e,he,hb'⟩
  rw[hb]at hm
  obtain⟨e',he',hb2⟩:=List.mem_map.1 hm
  exact hg.own e' he' b hb2
 ·rw[tE,hb,←tE];exact hg.nod
theorem ex_shutR{P:Program}{ro:Option Nat}{env:Env}{σ σ1 σ':List Ent}{c:Code}{Q:Exit→St→Prop}{mk:List Nat}{n:Nat}{v:Value}{e:TypeId}{sz:Nat}{l:List (List AV)}(hr:Rem σ (.row v e sz l) σ1)(hs:ShutR v (.dl sz l) σ1 σ')(h:EX P ro c Q ⟨env,σ',mk,n⟩):EX P ro c Q ⟨env,σ,mk,n⟩:=
 ⟨fun X M a w hs'=>by
  obtain⟨M1,h1,h2,h3⟩:=hs'.good.shut hr
  refine Go.wpIn_mono (h.run X M1 a w ⟨h2.shutRE h3 hs,hs'.size,hs'.defs,hs'.env.mono h1⟩) ?_
  rintro e a' w' ⟨M',s',hm,hs2,hq⟩
  exact⟨M',s',Mem.le_trans h1 hm,hs2,hq⟩⟩
abbrev Mtx:=List (Value×List Int)
def xY(M:Mtx):List Ent:=M.map fun q=>.row q.1 3 1 (q.2.map intC)
def qV(M:Mtx):List (List AV):=M.map fun q=>[.slv q.1]
def colsI(M:Mtx):List (List AV):=M.map fun q=>[ints q.2]
theorem ex_shutM{P:Program}{ro:Option Nat}{env:Env}{c:Code}{Q:Exit→St→Prop}{mk:List Nat}{n:Nat}{V:Value}{t:TypeId}: ∀(M:Mtx) (pre:List (List AV)) (σ:List Ent),(∀y∈pre,y.length=1)→
  EX P ro c Q ⟨env,.row V t 1 (pre++colsI M)::σ,mk,n⟩→EX P ro c Q ⟨env,.row V t 1 (pre++qV M)::(xY M++σ),mk,n⟩
 |[],pre,σ,_,h=>h
 |q::M,pre,σ,hp,h=>by
  refine ex_shutR (σ':=.row V t 1 ((pre++[[ints q.2]])++qV M)::(xY M++σ)) (.there .here) (.row ?_ ?_ ?_ (.refl _)) (ex_shutM M (pre++[[ints q.2]]) σ ?_ ?_)
  ·simp only[qV,List.map_cons,List.flatten_append,List.flatten_cons,List.flatten_nil,List.append_nil,List.append_assoc,List.singleton_append]
   have key: ∀(a:List AV) (b:List AV),Cv q.1 (ints q.2) (a++.slv q.1::b) (a++ints q.2::b):=fun a b=>by
    induction a with
    |nil=>exact .here (Cv.refl _)
    |cons x a ih=>exact .same ih
   exact key _ _
  ·simp[qV]
  ·intro y hy
   simp only[List.mem_append,qV,List.mem_map,List.mem_singleton]at hy
   rcases hy with(hy|rfl)|⟨_,_,rfl⟩
   ·exact hp y hy
   ·rfl
   ·rfl
  ·intro y hy
   simp only[List.mem_append,List.mem_singleton]at hy
   rcases hy with hy|rfl
   ·exact hp y hy
   ·rfl
  ·simpa [colsI]using h
theorem rows_pull{M:Mtx}{i:Nat}{q:Value×List Int}(h:M[i]?=some q)(σ:List Ent):(xY M++σ).Perm (.row q.1 3 1 (q.2.map intC)::(xY (M.take i)++(xY (M.drop (i+1))++σ))):=by
 have e:M=M.take i++q::M.drop (i+1):=by rw[←wZ h,List.take_append_drop]
 have e2:xY M=xY (M.take i)++.row q.1 3 1 (q.2.map intC)::xY (M.drop (i+1)):=by
  conv=>lhs;rw[e]
  simp[xY]
 rw[e2,List.append_assoc,List.cons_append]
 exact List.perm_middle
theorem rows_push{M:Mtx}{i:Nat}{q:Value×List Int}(h:M[i]?=some q)(L:List Int)(σ:List Ent):(.row q.1 3 1 (L.map intC)::(xY (M.take i)++(xY (M.drop (i+1))++σ))).Perm (xY (M.set i (q.1,L))++σ):=by
 have hi:=qZ h
 have h2:(M.set i (q.1,L))[i]?=some (q.1,L):=by rw[List.getElem?_set_self hi]
 have:=rows_pull h2 σ
 have e1:(M.set i (q.1,L)).take i=M.take i:=by
  refine List.ext_getElem? fun k=>?_
  rw[List.getElem?_take,List.getElem?_take,List.getElem?_set]
  by_cases hk:k<i
  ·rw[if_pos hk,if_pos hk,if_neg (by omega)]
  ·rw[if_neg hk,if_neg hk]
 have e2:(M.set i (q.1,L)).drop (i+1)=M.drop (i+1):=by
  refine List.ext_getElem? fun k=>?_
  rw[List.getElem?_drop,List.getElem?_drop,List.getElem?_set,if_neg (by omega)]
 rw[e1,e2]at this
 exact this.symm
theorem cols_set{M:Mtx}{i:Nat}{q:Value×List Int}(h:M[i]?=some q)(L:List Int):qV (M.set i (q.1,L))=qV M:=by
 unfold qV
 rw[List.map_set]
 refine List.ext_getElem? fun k=>?_
 rw[List.getElem?_set]
 split
 ·rename_i hk
  subst hk
  split
  ·rw[List.getElem?_map,h];rfl
  ·rename_i hn
   rw[List.length_map]at hn
   exact absurd (qZ h) hn
 ·rfl
theorem cols_get{M:Mtx}{i:Nat}{q:Value×List Int}(h:M[i]?=some q):(qV M)[i]?=some [.slv q.1]:=by
 unfold qV
 rw[List.getElem?_map,h];rfl
theorem cols_len(M:Mtx):(qV M).length=M.length:=List.length_map _
end Go.Proofs.YtaoaafdommlhcaaGreat
