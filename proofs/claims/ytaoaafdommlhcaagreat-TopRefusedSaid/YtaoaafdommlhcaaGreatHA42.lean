/- Parts of the proof that belong together: Kk Kl Km Kn. -/
import Derived.Test.YtaoaafdommlhcaaGreatHA07
import Derived.Test.YtaoaafdommlhcaaGreatHA31
import Derived.Test.YtaoaafdommlhcaaGreatHA33
import Derived.Test.YtaoaafdommlhcaaGreatHA41
set_option maxRecDepth 10000
set_option maxHeartbeats 16000000
set_option linter.unusedSimpArgs false
set_option linter.unusedVariables false
set_option autoImplicit false
open Go.Proofs.Tryz
namespace Go.Proofs.YtaoaafdommlhcaaGreat
open Go.WideMaps
def BoolP(σ:List Ent)(φ:Prop):AV→List Ent→Prop:=fun r τ=> ∃b:Bool,r=.bool b∧τ=σ∧(b=true→φ)
theorem boolP{σ:List Ent}{φ:Prop}{b:Bool}(h:b=true→φ):BoolP σ φ (.bool b) σ:=⟨b,rfl,rfl,h⟩
def lastsB(g:Rgt)(kind farm reach hour:Int):Bool:=decide (g.kind=kind)&&decide (g.farm=farm)&&decide (g.reach=reach)&&decide (g.frm≤hour)&&decide (hour≤g.to)
theorem lasts_r(g:Rgt)(kind farm reach hour:Int)(σ:List Ent):SCall prog 157 [.agg (rgtC g),.int .i64 kind,.int .i64 farm,.int .i64 reach,.int .i64 hour] σ (Is (.bool (lastsB g kind farm reach hour)) σ):=by
 refine zZ func157 rfl (by simp) ?_
 unfold lastsB
 refine uZ ?_;and_intros<;>first|exact nl|intros
 all_goals
  refine zW .nil zG yY (zN ?_)
  first|(simp[*];done)|(simp[*];rfl)
theorem eased_r(d:Dis)(hG:d.G.length≤256)(farm reach hour:Int)(σ:List Ent):SCall prog 158 [disV d,.int .i64 farm,.int .i64 reach,.int .i64 hour] σ (BoolP σ True):=by
 refine zZ func158 rfl (by simp) ?_
 have hGm:(d.G.map rgtC).length=d.G.length:=List.length_map _
 repeat' first|(show EX _ _ (Code.seq (Code.region 1 _ _) _) _ _;refine Stuck.out ?_)|(refine vW ?_;intros)|fail
 all_goals try refine Stuck.mk ?_
 rename Nat=>b4;revert b4
 intro b4
 refine yW ?_;intros
 refine zU (fun(k:Nat)=>(⟨[(1,.int .i64 farm),(2,.int .i64 reach),(3,.int .i64 hour),(4,.ptr b4 0),(9,.int .i64 (k:Nat))],.cells b4 (disC d) 31::σ,[],f158.ntmps⟩:St)) (fun k=>k≤d.G.length) (fun k=>d.G.length-k) 0 (Nat.zero_le _) (St.le_of zC yY) ?_
 intro k hI
 by_cases hk:k<d.G.length
 ·obtain⟨g,hg⟩:=zH hk
  have gg:(d.G.map rgtC)[k]?=some (rgtC g):=by rw[List.getElem?_map,hg];rfl
  have cl:=lasts_r g 3 farm reach hour
  generalize lastsB g 3 farm reach hour=b at cl
  cases b with
  |true=>
   repeat' first|(apply yQ;exact zD;rfl;rfl;refine zL ?_;exact cl _)|(refine xV ?_;and_intros<;>first|exact nl|intros)|fail
   refine zS (σ3:=σ) .nil zG zJ ?_
   exact zY (boolP fun _=>trivial)
  |false=>
   repeat' first|(apply yQ;exact zD;rfl;rfl;refine zL ?_;exact cl _)|(refine xV ?_;and_intros<;>first|exact nl|intros)|fail
   refine⟨k+1,hk,by omega,St.le_of zC yY⟩
 ·refine yW ?_;intros
  refine zS (σ3:=σ) .nil zG zJ ?_
  exact zY (boolP fun _=>trivial)
theorem may_r(d:Dis)(hG:d.G.length≤256)(farm reach hour:Int)(σ:List Ent):SCall prog 105 [disV d,.int .i64 farm,.int .i64 reach,.int .i64 hour] σ (BoolP σ True):=by
 refine zZ func105 rfl (by simp) ?_
 have hGm:(d.G.map rgtC).length=d.G.length:=List.length_map _
 repeat' first|(show EX _ _ (Code.seq (Code.region 1 _ _) _) _ _;refine Stuck.out ?_)|(refine vW ?_;intros)|fail
 all_goals try refine Stuck.mk ?_
 rename Nat=>b4;revert b4
 intro b4
 refine yW ?_;intros
 refine zU (fun(k:Nat)=>(⟨[(1,.int .i64 farm),(2,.int .i64 reach),(3,.int .i64 hour),(4,.ptr b4 0),(9,.int .i64 (k:Nat))],.cells b4 (disC d) 31::σ,[],f105.ntmps⟩:St)) (fun k=>k≤d.G.length) (fun k=>d.G.length-k) 0 (Nat.zero_le _) (St.le_of zC yY) ?_
 intro k hI
 by_cases hk:k<d.G.length
 ·obtain⟨g,hg⟩:=zH hk
  have gg:(d.G.map rgtC)[k]?=some (rgtC g):=by rw[List.getElem?_map,hg];rfl
  have cl:=lasts_r g 2 g.farm reach hour
  have ce:=fun σ=>eased_r d hG farm reach hour σ
  generalize lastsB g 2 g.farm reach hour=b at cl
  by_cases hf:g.farm=farm
  ·clear cl ce
   refine yW ?_;intros
   refine⟨k+1,hk,by omega,St.le_of zC yY⟩
  ·cases b with
   |true=>
    repeat' first|(refine xD (.call {callee:=.value (.func 158),args:=_,argTypes:=_}) ?_;refine zK rfl rfl rfl (zQ rfl rfl (zX (by kernel_rfl)) (ce _)) ?_;rintro _ _ ⟨c,rfl,rfl,_⟩)|(refine yX ?_;intros)|(apply yQ;exact zD;rfl;rfl;refine zL ?_;exact cl _)|(refine yV ?_ ?_<;>(intro z;cases z with|_ h)<;>intro hp)|exact nl|fail
    refine zS (σ3:=σ) .nil zG zJ ?_
    exact zY (boolP fun _=>trivial)
   |false=>
    clear ce
    repeat' first|(apply yQ;exact zD;rfl;rfl;refine zL ?_;exact cl _)|(refine xV ?_;and_intros<;>first|exact nl|intros)|fail
    refine⟨k+1,hk,by omega,St.le_of zC yY⟩
 ·refine yW ?_;intros
  refine zS (σ3:=σ) .nil zG zJ ?_
  exact zY (boolP fun _=>trivial)
theorem path22_r(d:Dis)(hd:yZ d=0)(i:Nat)(hi:i<d.R.length)(σ:List Ent):SCall prog 104 [disV d,.int .i64 (i:Nat)] σ (fun r τ=> ∃P:List Int,r=ints P∧τ=σ∧P.length≤1000):=by
 refine zZ func104 rfl (by simp) ?_
 have hT:=wP (zP hd).2
 have hR:=(yC (zP hd).1).1
 have hRm:(d.R.map rchC).length=d.R.length:=List.length_map _
 repeat' first|(show EX _ _ (Code.seq (Code.region 1 _ _) _) _ _;refine Stuck.out ?_)|(refine vW ?_;intros)|fail
 all_goals try refine Stuck.mk ?_
 rename Nat=>b2;revert b2
 intro b2
 refine yW ?_;intros
 rename Value=>v0
 refine zU (fun(z:Nat×List Int×Value)=>(⟨[(2,.ptr b2 0),(5,.slv z.2.2)],.row z.2.2 3 1 (((z.1:Int)::z.2.1).map intC)::.cells b2 (disC d) 31::σ,[],f104.ntmps⟩:St)) (fun z=>z.1<d.R.length∧z.2.1.length+z.1≤64) (fun z=>z.1) (i,[],v0) (⟨hi,by simp;omega⟩) (St.le_of zC yY) ?_
 intro z hI
 obtain⟨a,P,v⟩:=z
 obtain⟨hI1,hI2⟩:=hI
 dsimp only at hI1 hI2 ⊢
 obtain⟨Q,hQ⟩: ∃Q,Q=((a:Int)::P):=⟨_,rfl⟩
 rw[←hQ]
 have hQm:(Q.map intC).length=P.length+1:=by rw[hQ];simp
 have hQ0:0<(Q.map intC).length:=by omega
 have hQl:Q.length=P.length+1:=by rw[hQ];simp
 have ga:(Q.map intC)[0]?=some (intC a):=by rw[hQ];rfl
 by_cases ha:0<a
 ·obtain⟨x,hx⟩:=vR hI1
  have gx:(d.R.map rchC)[a]?=some (rchC x):=by rw[List.getElem?_map,hx];rfl
  obtain⟨u1,u2⟩:=hT.up a x ha hx
  obtain⟨u,hu⟩: ∃u:Nat,x.up=u:=⟨x.up.toNat,by omega⟩
  refine yW ?_;intros
  refine ex_drawLO (fun e=>e=.cells b2 (disC d) 31∨e=.row v 3 1 (Q.map intC)) 11 [0,1,2,3,4,5,6,7,9,8,10] [9,10] rfl (by kernel_rfl) rfl (by kernel_rfl) rfl ?_
  simp only[pick,List.filterMap_cons,List.filterMap_nil,List.getElem?_cons_zero,List.getElem?_cons_succ,List.take_succ_cons,List.take_zero,List.drop_succ_cons,List.drop_zero]
  repeat' first|(refine zgw ?_;(refine wl_eff rfl rfl rfl (by apply g_append;rfl;rfl;rfl;(intro v';exact qJ);exact zsr;exact zon;exact zap) ?_;rintro _ _ ⟨v'⟩;refine⟨(by first|(rintro _ (rfl|rfl) _<;>exact yP)|(rintro _ rfl _;exact yP)|exact fun _ hk _=>hk.elim),?_⟩))|(refine yX ?_;intros)|fail
  rename_i v'
  refine⟨(u,Q,v'),⟨by dsimp only;omega,by dsimp only;omega⟩,by dsimp only;omega,?_⟩
  have e:(((u:Nat):Int)::Q).map intC=[[.int .i64 x.up]]++Q.map intC:=by rw[hu];rfl
  dsimp only
  rw[e]
  exact(St.le_of zC zJ)
 ·refine yW ?_;intros
  refine zS (σ3:=.row v 3 1 (Q.map intC)::σ) .nil zG zJ ?_
  exact xS .here (.here .nil) (zY ⟨Q,rfl,rfl,by rw[hQ];simp;omega⟩)
theorem forbid_r(d:Dis)(hd:yZ d=0)(a:Nat)(ha:a<d.F.length)(hour:Int)(σ:List Ent):SCall prog 50 [disV d,.int .i64 (a:Nat),.int .i64 hour] σ (fun r τ=> ∃n:Int,r=.int .i64 n∧τ=σ):=by
 refine zZ func50 rfl (by simp) ?_
 have hG:=(yC (zP hd).1).2.2.2.1
 have hFm:(d.F.map frmC).length=d.F.length:=List.length_map _
 obtain⟨y,gy,_,hy1,hy2⟩:=farm_at (zP hd).2 ha
 obtain⟨j,hj⟩: ∃j:Nat,y.reach=j:=⟨y.reach.toNat,by omega⟩
 have cp:=fun σ=>path22_r d hd j (by omega) σ
 rw[←hj]at cp
 repeat' first|(show EX _ _ (Code.seq (Code.region 1 _ _) _) _ _;refine Stuck.out ?_)|(refine vW ?_;intros)|fail
 all_goals try refine Stuck.mk ?_
 rename Nat=>b3;revert b3
 intro b3
 refine yW ?_;intros
 refine yB (fun e=>e=.cells b3 (disC d) 31) [7] 8 rfl (by kernel_rfl) rfl ?_
 simp only[List.take_succ_cons,List.take_zero,List.drop_succ_cons,List.drop_zero]
 repeat' first|(refine zgp (.call {callee:=.value (.func 104),args:=_,argTypes:=_}) ?_;refine yN rfl rfl (zQ rfl rfl (zX (by kernel_rfl)) (cp _)) ?_;rintro _ _ ⟨P,rfl,rfl,hP⟩;refine⟨zks,?_⟩)|(refine yX ?_;intros)|fail
 clear cp gy
 have hPm:(P.map intC).length=P.length:=List.length_map _
 refine zU (fun(k:Nat)=>(⟨[(1,.int .i64 (a:Nat)),(2,.int .i64 hour),(3,.ptr b3 0),(7,ints P),(8,.int .i64 (k:Nat))],.cells b3 (disC d) 31::σ,[],Tryz.f50.ntmps⟩:St)) (fun k=>k≤P.length) (fun k=>P.length-k) 0 (Nat.zero_le _) (St.le_of zC yY) ?_
 intro k hI
 by_cases hk:k<P.length
 ·obtain⟨n,hn⟩:=zH hk
  have gn:=wU hn
  have cm:=fun σ=>may_r d hG a n hour σ
  refine yW ?_;intros
  refine yB (fun e=>e=.cells b3 (disC d) 31) [7] 8 rfl (by kernel_rfl) rfl ?_
  simp only[List.take_succ_cons,List.take_zero,List.drop_succ_cons,List.drop_zero]
  repeat' first|(refine zgp (.call {callee:=.value (.func 105),args:=_,argTypes:=_}) ?_;refine yN rfl rfl (zQ rfl rfl (zX (by kernel_rfl)) (cm _)) ?_;rintro _ _ ⟨bm,rfl,rfl,_⟩;refine⟨zks,?_⟩)|(refine yX ?_;intros)|(refine yV ?_ ?_<;>(intro z;cases z with|_ h)<;>intro hp)|fail
  ·refine zS (σ3:=σ) .nil zG zJ ?_
   exact zY ⟨_,rfl,rfl⟩
  ·refine⟨k+1,hk,by omega,St.le_of zC yY⟩
 ·refine yW ?_;intros
  refine zS (σ3:=σ) .nil zG zJ ?_
  exact zY ⟨_,rfl,rfl⟩
def ClmsIn(d:Dis)(C:List Clm):Prop:= ∀c∈C,∃a:Nat,c.farm=a∧a<d.F.length
theorem hour_r(d:Dis)(l:List Ded)(hck:tC d l=0)(hour known:Int)(hh:0≤hour∧hour<d.hours)(hkn:0≤known∧known≤1048576)(σ:List Ent):
  SCall prog 49 [disV d,deds l,.int .i64 hour,.int .i64 known] σ (fun r τ=> ∃C:List Clm,r=clms C∧τ=σ∧C.length≤d.G.length*d.F.length∧ClmsIn d C):=by
 refine zZ func49 rfl (by simp) ?_
 obtain⟨hd,hl,hok⟩:=r25_zero hck
 have hvv:=(zP hd).2
 have hfe:=yC (zP hd).1
 have hHl:=xF hvv
 have hGm:(d.G.map rgtC).length=d.G.length:=List.length_map _
 have ca:=fun σ=>at25_r d l hck hour known hh hkn σ
 have hbig:d.G.length*d.F.length≤256*600:=Nat.mul_le_mul (by omega) (by omega)
 refine xX 57 5 ?_
 repeat' first|(show EX _ _ (Code.seq (Code.region 1 _ _) _) _ _;refine Stuck.out ?_)|(refine vW ?_;intros)|fail
 all_goals try refine Stuck.mk ?_
 rename Nat=>b4;revert b4
 intro b4
 repeat' first|(refine xD (.call {callee:=.value (.func 101),args:=_,argTypes:=_}) ?_;refine zK rfl rfl rfl (zQ rfl rfl (zX (by kernel_rfl)) (ca _)) ?_;rintro _ _ ⟨HL,rfl,rfl,hH1,hH2⟩)|(refine yX ?_;intros)|fail
 clear ca
 have hHm:(HL.map holC).length=HL.length:=List.length_map _
 refine ex_seal (env':=[(2,.int .i64 hour),(4,.ptr b4 0),(9,.dl 4 (HL.map holC)),(11,clms []),(12,.int .i64 0)]) (.there .here) (by repeat (first|exact .nil|refine .same rfl ?_|refine .here rfl ?_)) ?_
 refine zU (fun(z:Nat×List Clm)=>(⟨[(2,.int .i64 hour),(4,.ptr b4 0),(9,.dl 4 (HL.map holC)),(11,clms z.2),(12,.int .i64 (z.1:Nat))],.cells b4 (disC d) 31::σ,[],Tryz.f49.ntmps⟩:St)) (fun z=>z.1≤HL.length∧z.2.length≤z.1∧ClmsIn d z.2) (fun z=>HL.length-z.1) (0,[]) (⟨Nat.zero_le _,Nat.le_refl _,fun c h=>(nomatch h)⟩) (St.le_of zC yY) ?_
 intro z hI
 obtain⟨k,C⟩:=z
 obtain⟨hI1,hI2,hI3⟩:=hI
 dsimp only at hI1 hI2 hI3 ⊢
 by_cases hk:k<HL.length
 ·obtain⟨h9,hh9⟩:=zH hk
  have gh:(HL.map holC)[k]?=some (holC h9):=by rw[List.getElem?_map,hh9];rfl
  obtain⟨⟨r,g,hr1,hr2,hr3⟩,a,ha1,ha2⟩:=hH2 h9 (List.mem_of_getElem? hh9)
  have gg:(d.G.map rgtC)[r]?=some (rgtC g):=by rw[List.getElem?_map,hr2];rfl
  have hrt:qC d g=true:=by
   unfold yD at hvv
   simp only[Bool.and_eq_true]at hvv
   exact List.all_eq_true.1 hvv.1.2 g (List.mem_of_getElem? hr2)
  have co:=open_r d g (take_ok hrt hr3) hour hh hHl
  have cpt:=fun σ=>put_r C ⟨h9.right,h9.farm,hour,h9.litres,h9.rank⟩ (by omega) σ
  generalize openR hour g=b at co
  clear hH2 hvv hrt
  cases b with
  |true=>
   repeat' first|(refine xD (.call {callee:=.value (.func 103),args:=_,argTypes:=_}) ?_;refine zK rfl rfl rfl (zQ rfl rfl (zX (by kernel_rfl)) (cpt _)) ?_;rintro _ _ ⟨j,hj,rfl,rfl⟩)|(refine yX ?_;intros)|(apply yQ;exact zD;rfl;rfl;refine zL ?_;exact co _)|(refine yV ?_ ?_<;>(intro z;cases z with|_ h)<;>intro hp)|exact nl|fail
   refine⟨(k+1,C.take j++⟨h9.right,h9.farm,hour,h9.litres,h9.rank⟩::C.drop j),⟨hk,by dsimp only;rw[List.length_append,List.length_cons,List.length_take,List.length_drop];omega,fun c hc=>?_⟩,by dsimp only;omega,(St.le_of zC zJ)⟩
   rcases List.mem_append.1 hc with h|h
   ·exact hI3 c (List.mem_of_mem_take h)
   ·rcases List.mem_cons.1 h with rfl|h
    ·exact⟨a,ha1,ha2⟩
    ·exact hI3 c (List.mem_of_mem_drop h)
  |false=>
   clear cpt
   repeat' first|(apply yQ;exact zD;rfl;rfl;refine zL ?_;exact co _)|(refine xV ?_;and_intros<;>first|exact nl|intros)|fail
   refine⟨(k+1,C),⟨hk,by dsimp only;omega,hI3⟩,by dsimp only;omega,St.le_of zC yY⟩
 ·refine yW ?_;intros
  refine zS (σ3:=σ) .nil zG zJ ?_
  exact zY ⟨C,rfl,rfl,by omega,hI3⟩
open Go.WideMaps
def checkR26(d:Dis)(l:List Ded)(frm to known:Int):Int:=if tC d l≠0 then tC d l else if frm<0∨to<frm∨d.hours≤to∨known<0∨1048576<known then 1 else if 4096<(to-frm+1)*d.G.length then 2 else 0
def LensOk(d:Dis)(l:List Ded):Prop:=(d.R.length≤9223372036854775807∧d.C.length≤9223372036854775807∧d.F.length≤9223372036854775807∧d.G.length≤9223372036854775807∧d.D.length≤9223372036854775807)∧l.length≤9223372036854775807
theorem check26_r(d:Dis)(l:List Ded)(hL:LensOk d l)(frm to known:Int)(σ:List Ent):SCall prog 48 [disV d,deds l,.int .i64 frm,.int .i64 to,.int .i64 known] σ (Is (.int .i64 (checkR26 d l frm to known)) σ):=by
 refine zZ func48 rfl (by simp) ?_
 have c0:=check25_r d hL.1 l hL.2
 have hGm:(d.G.map rgtC).length=d.G.length:=List.length_map _
 unfold checkR26
 by_cases h0:tC d l≠0
 ·rw[if_pos h0]
  generalize tC d l=e at c0 h0 ⊢
  repeat' first|(apply yQ;exact zD;rfl;rfl;refine zL ?_;exact c0 _)|(refine xV ?_;and_intros<;>first|exact nl|intros)|fail
  all_goals
   refine zW .nil zG zJ ?_
   rfl
 rw[if_neg h0]
 have h0:tC d l=0:=by omega
 rw[h0]at c0
 obtain⟨hd,_⟩:=r25_zero h0
 have hH:=xF (zP hd).2
 have hG:=(yC (zP hd).1).2.2.2.1
 by_cases h1:frm<0∨to<frm∨d.hours≤to∨known<0∨1048576<known
 ·rw[if_pos h1]
  by_cases q1:frm<0
  ·repeat' first|(apply yQ;exact zD;rfl;rfl;refine zL ?_;exact c0 _)|(refine xV ?_;and_intros<;>first|exact nl|intros)|fail
   all_goals
    refine zW .nil zG zJ ?_
    rfl
  by_cases q2:to<frm
  ·repeat' first|(apply yQ;exact zD;rfl;rfl;refine zL ?_;exact c0 _)|(refine xV ?_;and_intros<;>first|exact nl|intros)|fail
   all_goals
    refine zW .nil zG zJ ?_
    rfl
  by_cases q3:d.hours≤to
  ·repeat' first|(apply yQ;exact zD;rfl;rfl;refine zL ?_;exact c0 _)|(refine xV ?_;and_intros<;>first|exact nl|intros)|fail
   all_goals
    refine zW .nil zG zJ ?_
    rfl
  by_cases q4:known<0
  ·repeat' first|(apply yQ;exact zD;rfl;rfl;refine zL ?_;exact c0 _)|(refine xV ?_;and_intros<;>first|exact nl|intros)|fail
   all_goals
    refine zW .nil zG zJ ?_
    rfl
  have q5:1048576<known:=by omega
  repeat' first|(apply yQ;exact zD;rfl;rfl;refine zL ?_;exact c0 _)|(refine xV ?_;and_intros<;>first|exact nl|intros)|fail
  all_goals
   refine zW .nil zG zJ ?_
   rfl
 rw[if_neg h1]
 obtain⟨N,hN⟩: ∃N:Nat,to-frm+1=N:=⟨(to-frm+1).toNat,by omega⟩
 have hm1:0≤(N:Int)*(d.G.length:Int):=Int.mul_nonneg (by omega) (by omega)
 have hm2:(N:Int)*(d.G.length:Int)≤4096*256:=by
  have:N*d.G.length≤4096*256:=Nat.mul_le_mul (by omega) hG
  omega
 rw[←hN]at hm1 hm2
 by_cases h2:4096<(to-frm+1)*(d.G.length:Int)
 ·rw[if_pos h2]
  repeat' first|(apply yQ;exact zD;rfl;rfl;refine zL ?_;exact c0 _)|(refine xV ?_;and_intros<;>first|exact nl|intros)|fail
  all_goals
   refine zW .nil zG zJ ?_
   rfl
 ·rw[if_neg h2]
  repeat' first|(apply yQ;exact zD;rfl;rfl;refine zL ?_;exact c0 _)|(refine xV ?_;and_intros<;>first|exact nl|intros)|fail
  all_goals
   refine zW .nil zG zJ ?_
   rfl
theorem of26_r(d:Dis)(l:List Ded)(hL:LensOk d l)(frm to known:Int)(σ:List Ent):SCall prog 18 [disV d,deds l,.int .i64 frm,.int .i64 to,.int .i64 known] σ (fun r τ=> ∃(C:List Clm) (e:Int),r=.tup [clms C,.int .i64 e]∧τ=σ∧C.length≤5000∧(e=0→yZ d=0)):=by
 refine zZ func18 rfl (by simp) ?_
 have c0:=check26_r d l hL frm to known
 by_cases h0:checkR26 d l frm to known≠0
 ·generalize checkR26 d l frm to known=e at c0 h0
  repeat' first|(apply yQ;exact zD;rfl;rfl;refine zL ?_;exact c0 _)|(refine xV ?_;and_intros<;>first|exact nl|intros)|fail
  all_goals
   refine zS (σ3:=σ) .nil zG zJ ?_
   exact xK (sz:=5) (.tup (.here (.same .nil)) .nil) (zY ⟨[],e,rfl,rfl,Nat.zero_le _,fun h=>absurd h h0⟩)
 have h0:checkR26 d l frm to known=0:=by omega
 rw[h0]at c0
 unfold checkR26 at h0
 have hck:tC d l=0:=by
  by_cases q:tC d l≠0
  ·rw[if_pos q]at h0;exact absurd h0 q
  ·omega
 rw[if_neg (fun h=>h hck)]at h0
 have hrg:¬ (frm<0∨to<frm∨d.hours≤to∨known<0∨1048576<known):=fun q=>by rw[if_pos q]at h0;cases h0
 rw[if_neg hrg]at h0
 have hmu:¬ 4096<(to-frm+1)*(d.G.length:Int):=fun q=>by rw[if_pos q]at h0;cases h0
 clear h0
 obtain⟨hd,_⟩:=r25_zero hck
 have hH:=xF (zP hd).2
 have hfe:=yC (zP hd).1
 obtain⟨N,hN⟩: ∃N:Nat,to-frm+1=N:=⟨(to-frm+1).toNat,by omega⟩
 rw[hN]at hmu
 have hub: ∀i,i≤N→i*(d.G.length*d.F.length)≤3000000:=fun i hi=>by
  have k1:i*(d.G.length*d.F.length)≤(N*d.G.length)*600:=by
   rw[←Nat.mul_assoc]
   exact Nat.mul_le_mul (Nat.mul_le_mul_right _ hi) (by omega)
  have k2:N*d.G.length≤4096:=by omega
  omega
 clear hmu
 refine xX 57 5 ?_
 repeat' first|(show EX _ _ (Code.seq (Code.region 1 _ _) _) _ _;refine Stuck.out ?_)|(refine vW ?_;intros)|fail
 all_goals try refine Stuck.mk ?_
 rename Nat=>b5;revert b5
 intro b5
 repeat' first|(apply yQ;exact zD;rfl;rfl;refine zL ?_;exact c0 _)|(refine xV ?_;and_intros<;>first|exact nl|intros)|fail
 clear c0
 refine zU (fun(z:Nat×Int×Value×List Clm)=>(⟨[(1,deds l),(3,.int .i64 to),(4,.int .i64 known),(5,.ptr b5 0),(13,.slv z.2.2.1),(14,.int .i64 z.2.1)],.cells b5 (disC d) 31::.row z.2.2.1 57 5 (z.2.2.2.map clmC)::σ,[],f18.ntmps⟩:St)) (fun z=>z.1≤N∧z.2.1=frm+z.1∧z.2.2.2.length≤z.1*(d.G.length*d.F.length)) (fun z=>N-z.1) (0,frm,nilS,[]) (⟨Nat.zero_le _,by simp,Nat.zero_le _⟩) (St.le_of zC yY) ?_
 intro z hI
 obtain⟨i,u,V,C⟩:=z
 obtain⟨hI1,hI2,hI3⟩:=hI
 dsimp only at hI1 hI2 hI3 ⊢
 have hb:=hub i hI1
 have hCm:(C.map clmC).length=C.length:=List.length_map _
 by_cases hi:i<N
 rotate_left
 ·have hth:to<u:=by omega
  clear hub
  by_cases hbig:4096<C.length
  ·refine yW ?_;intros
   refine zS (σ3:=σ) .nil zG zJ ?_
   exact xK (sz:=5) (.tup (.here (.same .nil)) .nil) (zY ⟨[],_,rfl,rfl,Nat.zero_le _,fun h=>absurd h (by decide)⟩)
  ·refine yW ?_;intros
   refine zS (σ3:=.row V 57 5 (C.map clmC)::σ) .nil zG zJ ?_
   exact xS .here (.tup (.here (.same .nil)) .nil) (zY ⟨C,_,rfl,rfl,by omega,fun _=>hd⟩)
 have hth:u≤to:=by omega
 have hb2:=hub (i+1) hi
 have hmul:(i+1)*(d.G.length*d.F.length)=i*(d.G.length*d.F.length)+d.G.length*d.F.length:=by rw[Nat.add_mul,Nat.one_mul]
 have ch:=fun σ=>hour_r d l hck u known (by omega) (by omega) σ
 clear hub
 repeat' first|(refine xD (.call {callee:=.value (.func 49),args:=_,argTypes:=_}) ?_;refine zK rfl rfl rfl (zQ rfl rfl (zX (by kernel_rfl)) (ch _)) ?_;rintro _ _ ⟨K,rfl,rfl,hK1,hK2⟩)|(refine yX ?_;intros)|(refine yV ?_ ?_<;>(intro z;cases z with|_ h)<;>intro hp)|exact nl|fail
 clear ch
 have hKm:(K.map clmC).length=K.length:=List.length_map _
 refine zU (fun(w:Nat×Value×List Clm)=>(⟨[(1,deds l),(3,.int .i64 to),(4,.int .i64 known),(5,.ptr b5 0),(13,.slv w.2.1),(14,.int .i64 u),(15,clms K),(16,.int .i64 (w.1:Nat))],.cells b5 (disC d) 31::.row w.2.1 57 5 (w.2.2.map clmC)::σ,[],f18.ntmps⟩:St)) (fun w=>w.1≤K.length∧w.2.2.length≤i*(d.G.length*d.F.length)+w.1) (fun w=>K.length-w.1) (0,V,C) (⟨Nat.zero_le _,hI3⟩) (St.le_of zC yY) ?_
 intro w hI
 clear hI3 hCm
 obtain⟨k,V,C⟩:=w
 obtain⟨hJ1,hJ2⟩:=hI
 dsimp only at hJ1 hJ2 ⊢
 have hCm:(C.map clmC).length=C.length:=List.length_map _
 by_cases hk:k<K.length
 rotate_left
 ·refine yW ?_;intros
  refine⟨(i+1,u+1,V,C),⟨hi,by dsimp only;omega,by dsimp only;omega⟩,by dsimp only;omega,St.le_of zC yY⟩
 obtain⟨c,hc⟩:=zH hk
 have gc:=pT hc
 obtain⟨a,ha1,ha2⟩:=hK2 c (List.mem_of_getElem? hc)
 have cf:=fun σ=>forbid_r d hd a ha2 u σ
 rw[←ha1]at cf
 clear hK2
 refine yW ?_;intros
 refine yB (fun e=>e=.cells b5 (disC d) 31) [7] 8 rfl (by kernel_rfl) rfl ?_
 simp only[List.take_succ_cons,List.take_zero,List.drop_succ_cons,List.drop_zero]
 repeat' first|(refine zgp (.call {callee:=.value (.func 50),args:=_,argTypes:=_}) ?_;refine yN rfl rfl (zQ rfl rfl (zX (by kernel_rfl)) (cf _)) ?_;rintro _ _ ⟨n,rfl,rfl⟩;refine⟨zks,?_⟩)|(refine yX ?_;intros)|(refine yV ?_ ?_<;>(intro z;cases z with|_ h)<;>intro hp)|fail
 ·rename Value=>V2
  have e:(C++[c]).map clmC=C.map clmC++[clmC c]:=by simp
  refine⟨(k+1,V2,C++[c]),⟨hk,by dsimp only;rw[List.length_append,List.length_singleton];omega⟩,by dsimp only;omega,?_⟩
  dsimp only
  rw[e]
  exact(St.le_of zC zJ)
 ·refine⟨(k+1,V,C),⟨hk,by dsimp only;omega⟩,by dsimp only;omega,St.le_of zC yY⟩
open Go.WideMaps
theorem has_r(l:List Int)(hl:l.length≤10000000)(v:Value)(n:Int){σ:List Ent}(hm:Ent.row v 3 1 (l.map intC)∈σ):SCall prog 51 [.slv v,.int .i64 n] σ (BoolP σ True):=by
 refine zZ func51 rfl (by simp) ?_
 have hlm:(l.map intC).length=l.length:=List.length_map _
 refine uZ ?_;and_intros<;>first|exact nl|intros
 refine zU (fun(k:Nat)=>(⟨[(0,.slv v),(1,.int .i64 n),(5,.int .i64 (k:Nat))],σ,[],f51.ntmps⟩:St)) (fun k=>k≤l.length) (fun k=>l.length-k) 0 (Nat.zero_le _) (St.le_of zC yY) ?_
 intro k hI
 by_cases hk:k<l.length
 ·obtain⟨x,hx⟩:=zH hk
  have gx:=wU hx
  have hkl:k<(l.map intC).length:=by omega
  refine uZ ?_;and_intros<;>first|exact nl|intros
  ·refine zS (σ3:=σ) .nil zG zJ ?_
   exact zY (boolP fun _=>trivial)
  ·refine⟨k+1,hk,by omega,St.le_of zC yY⟩
 ·refine uZ ?_;and_intros<;>first|exact nl|intros
  refine zS (σ3:=σ) .nil zG zJ ?_
  exact zY (boolP fun _=>trivial)
theorem rights29_r(d:Dis)(hd:yZ d=0)(C:List Clm)(hC:C.length≤5000)(σ:List Ent):SCall prog 19 [disV d,clms C] σ (fun r τ=> ∃P:List Int,r=ints P∧τ=σ):=by
 refine zZ func19 rfl (by simp) ?_
 have hG:=(yC (zP hd).1).2.2.2.1
 have hGm:(d.G.map rgtC).length=d.G.length:=List.length_map _
 have hCm:(C.map clmC).length=C.length:=List.length_map _
 refine xX 3 1 ?_
 repeat' first|(show EX _ _ (Code.seq (Code.region 1 _ _) _) _ _;refine Stuck.out ?_)|(refine vW ?_;intros)|(refine yV ?_ ?_<;>(intro z;cases z with|_ h)<;>intro hp)|exact nl|cases ‹BV _ _›|exact wG|fail
 all_goals try refine Stuck.mk ?_
 rename Nat=>b2;revert b2
 intro b2
 refine uZ ?_;and_intros<;>first|exact nl|intros
 refine zU (fun(z:Nat×Value×List Int)=>(⟨[(1,clms C),(2,.ptr b2 0),(5,.slv z.2.1),(6,.int .i64 (z.1:Nat))],.cells b2 (disC d) 31::.row z.2.1 3 1 (z.2.2.map intC)::σ,[],f19.ntmps⟩:St)) (fun z=>z.1≤d.G.length∧z.2.2.length≤z.1*5000) (fun z=>d.G.length-z.1) (0,nilS,[]) (⟨Nat.zero_le _,Nat.zero_le _⟩) (St.le_of zC yY) ?_
 intro z hI
 obtain⟨i,V,P⟩:=z
 obtain⟨hI1,hI2⟩:=hI
 dsimp only at hI1 hI2 ⊢
 by_cases hi:i<d.G.length
 rotate_left
 ·refine uZ ?_;and_intros<;>first|exact nl|intros
  refine zS (σ3:=.row V 3 1 (P.map intC)::σ) .nil zG zJ ?_
  exact xS .here (.here .nil) (zY ⟨P,rfl,rfl⟩)
 refine uZ ?_;and_intros<;>first|exact nl|intros
 refine zU (fun(w:Nat×Value×List Int)=>(⟨[(1,clms C),(2,.ptr b2 0),(5,.slv w.2.1),(6,.int .i64 (i:Nat)),(7,.int .i64 (w.1:Nat))],.cells b2 (disC d) 31::.row w.2.1 3 1 (w.2.2.map intC)::σ,[],f19.ntmps⟩:St)) (fun w=>w.1≤C.length∧w.2.2.length≤i*5000+w.1) (fun w=>C.length-w.1) (0,V,P) (⟨Nat.zero_le _,Nat.le_trans hI2 (Nat.le_add_right _ _)⟩) (St.le_of zC yY) ?_
 intro w hI
 clear hI2
 obtain⟨k,V,P⟩:=w
 obtain⟨hJ1,hJ2⟩:=hI
 dsimp only at hJ1 hJ2 ⊢
 have hPm:(P.map intC).length=P.length:=List.length_map _
 by_cases hk:k<C.length
 rotate_left
 ·refine uZ ?_;and_intros<;>first|exact nl|intros
  refine⟨(i+1,V,P),⟨hi,by dsimp only;omega⟩,by dsimp only;omega,St.le_of zC yY⟩
 obtain⟨c,hc⟩:=zH hk
 have gc:=pT hc
 by_cases hr:c.right=i
 rotate_left
 ·refine uZ ?_;and_intros<;>first|exact nl|intros
  refine⟨(k+1,V,P),⟨hk,by dsimp only;omega⟩,by dsimp only;omega,St.le_of zC yY⟩
 have ch:=fun {σ:List Ent} (hm:Ent.row V 3 1 (P.map intC)∈σ)=>has_r P (by omega) V i hm
 have e:(P++[(i:Int)]).map intC=P.map intC++[intC i]:=by simp
 repeat' first|(refine xD (.call {callee:=.value (.func 51),args:=_,argTypes:=_}) ?_;refine uC rfl zbt rfl rfl (zQ rfl rfl (zX (by kernel_rfl)) (ch yP)) ?_;rintro _ _ ⟨bm,rfl,rfl,_⟩)|(refine yX ?_;intros)|(refine yV ?_ ?_<;>(intro z;cases z with|_ h)<;>intro hp)|exact nl|cases ‹BV _ _›|exact wG|fail
 ·rename Value=>V2
  refine⟨(k+1,V2,P++[(i:Int)]),⟨hk,by dsimp only;rw[List.length_append,List.length_singleton];omega⟩,by dsimp only;omega,?_⟩
  dsimp only
  rw[e]
  exact(St.le_of zC zJ)
 ·refine⟨(k+1,V,P),⟨hk,by dsimp only;omega⟩,by dsimp only;omega,St.le_of zC yY⟩
def FewP(d:Dis):Prop:=(d.F.length≤8∨600<d.F.length)∧(d.hours≤30∨1024<d.hours)
theorem few27_r(d:Dis)(σ:List Ent):SCall prog 17 [disV d,clms []] σ (BoolP σ (FewP d)):=by
 refine zZ func17 rfl (by simp) ?_
 have hGm:(d.G.map rgtC).length=d.G.length:=List.length_map _
 have hDm:(d.D.map dtyC).length=d.D.length:=List.length_map _
 have hFm:(d.F.map frmC).length=d.F.length:=List.length_map _
 have hRm:(d.R.map rchC).length=d.R.length:=List.length_map _
 have hCm:(d.C.map crpC).length=d.C.length:=List.length_map _
 by_cases hp9:FewP d
 ·repeat' first|(refine yX ?_;intros)|(refine yV ?_ ?_<;>(intro z;cases z with|_ h)<;>intro hp)|exact nl|cases ‹BV _ _›|exact wG|fail
  all_goals
   refine zS (σ3:=σ) .nil zG zJ ?_
   exact zY (boolP fun _=>hp9)
 ·by_cases h1:d.F.length≤8∨600<d.F.length
  ·have h2:30<d.hours∧d.hours≤1024:=by
    rcases (by omega:(30<d.hours∧d.hours≤1024)∨(d.hours≤30∨1024<d.hours))with h|h
    ·exact h
    ·exact absurd ⟨h1,h⟩ hp9
   refine uZ ?_;and_intros<;>first|exact nl|intros
   all_goals
    refine zS (σ3:=σ) .nil zG zJ ?_
    exact zY ⟨_,rfl,rfl,fun h=>(by first|(cases h;done)|(exfalso;simp at h;omega))⟩
  ·refine uZ ?_;and_intros<;>first|exact nl|intros
   all_goals
    first
     |(exfalso;omega)
     |(
      refine zS (σ3:=σ) .nil zG zJ ?_
      exact zY ⟨_,rfl,rfl,fun h=>(by first|(cases h;done)|(exfalso;simp at h;omega))⟩)
theorem few25_r(d:Dis)(l:List Ded)(hl:l.length≤9223372036854775807)(σ:List Ent):SCall prog 47 [disV d,deds l] σ (BoolP σ True):=by
 refine zZ func47 rfl (by simp) ?_
 have hlm:(l.map dedC).length=l.length:=List.length_map _
 have hGm:(d.G.map rgtC).length=d.G.length:=List.length_map _
 have hFm:(d.F.map frmC).length=d.F.length:=List.length_map _
 have cf:=few19_r d
 generalize few19 d=b at cf
 repeat' first|(show EX _ _ (Code.seq (Code.region 1 _ _) _) _ _;refine Stuck.out ?_)|(refine vW ?_;intros)|(refine yV ?_ ?_<;>(intro z;cases z with|_ h)<;>intro hp)|exact nl|cases ‹BV _ _›|exact wG|fail
 all_goals try refine Stuck.mk ?_
 rename Nat=>b2;revert b2
 intro b2
 refine pG (fun(_:Unit)=>⟨[(1,deds l),(2,.ptr b2 0)],.cells b2 (disC d) 31::σ,[],Tryz.f47.ntmps⟩) ?_ ?_
 ·repeat' first|(apply yQ;exact zD;rfl;rfl;refine zL ?_;exact cf _)|(refine xV ?_;and_intros<;>first|exact nl|intros)|(refine yV ?_ ?_<;>(intro z;cases z with|_ h)<;>intro hp)|exact nl|cases ‹BV _ _›|exact wG|fail
  all_goals first
   |exact⟨(),_,.refl _,(St.le_of zC zJ)⟩
   |(
    refine zS (σ3:=σ) .nil zG zJ ?_
    exact zY (boolP fun _=>trivial))
 intro u
 clear u
 repeat' first|(show EX _ _ (Code.seq (Code.region 3 _ _) _) _ _;refine Stuck.out ?_)|(refine vW ?_;intros)|(refine yV ?_ ?_<;>(intro z;cases z with|_ h)<;>intro hp)|exact nl|cases ‹BV _ _›|exact wG|fail
 all_goals try refine Stuck.mk ?_
 refine pG (fun(_:Unit)=>⟨[(1,deds l),(2,.ptr b2 0)],.cells b2 (disC d) 31::σ,[],Tryz.f47.ntmps⟩) ?_ ?_
 ·repeat' first|(apply yQ;exact zD;rfl;rfl;refine zL ?_;exact cf _)|(refine xV ?_;and_intros<;>first|exact nl|intros)|(refine yV ?_ ?_<;>(intro z;cases z with|_ h)<;>intro hp)|exact nl|cases ‹BV _ _›|exact wG|fail
  all_goals first
   |exact⟨(),_,.refl _,(St.le_of zC zJ)⟩
   |(
    refine zS (σ3:=σ) .nil zG zJ ?_
    exact zY (boolP fun _=>trivial))
 intro u
 clear u cf
 refine uZ ?_;and_intros<;>first|exact nl|intros
 refine zU (fun(k:Nat)=>(⟨[(1,deds l),(5,.int .i64 (k:Nat))],σ,[],Tryz.f47.ntmps⟩:St)) (fun k=>k≤l.length) (fun k=>l.length-k) 0 (Nat.zero_le _) (St.le_of zC yY) ?_
 intro k hI
 by_cases hk:k<l.length
 ·obtain⟨x,hx⟩:=zH hk
  have gx:=tW hx
  have hpm:(x.parts.map prtC).length=x.parts.length:=List.length_map _
  refine uZ ?_;and_intros<;>first|exact nl|intros
  ·refine zS (σ3:=σ) .nil zG zJ ?_
   exact zY (boolP fun _=>trivial)
  ·refine⟨k+1,hk,by omega,St.le_of zC yY⟩
 ·refine uZ ?_;and_intros<;>first|exact nl|intros
  refine zS (σ3:=σ) .nil zG zJ ?_
  exact zY (boolP fun _=>trivial)
theorem few26_r(d:Dis)(l:List Ded)(hL:LensOk d l)(frm to:Int)(σ:List Ent):SCall prog 16 [disV d,deds l,.int .i64 frm,.int .i64 to] σ (BoolP σ True):=by
 refine zZ func16 rfl (by simp) ?_
 have cf:=fun σ=>few25_r d l hL.2 σ
 have hGm:(d.G.map rgtC).length=d.G.length:=List.length_map _
 repeat' first|(refine xD (.call {callee:=.value (.func 47),args:=_,argTypes:=_}) ?_;refine zK rfl rfl rfl (zQ rfl rfl (zX (by kernel_rfl)) (cf _)) ?_;rintro _ _ ⟨b,rfl,rfl,_⟩)|(refine yX ?_;intros)|(refine yV ?_ ?_<;>(intro z;cases z with|_ h)<;>intro hp)|exact nl|cases ‹BV _ _›|exact wG|fail
 all_goals
  refine zS (σ3:=σ) .nil zG zJ ?_
  exact zY (boolP fun _=>trivial)
theorem few29_r(d:Dis)(l:List Ded)(hL:LensOk d l)(frm to known:Int)(σ:List Ent):SCall prog 5 [disV d,deds l,.int .i64 frm,.int .i64 to,.int .i64 known] σ (BoolP σ (FewP d)):=by
 refine zZ func5 rfl (by simp) ?_
 have c6:=fun σ=>few26_r d l hL frm to σ
 have c7:=fun σ=>scall_nil 5 (.same (.here .nil)) (few27_r d σ)
 have co:=fun σ=>of26_r d l hL frm to known σ
 have cr:=fun hd C hC σ=>rights29_r d hd C hC σ
 repeat' first|(refine xD (.call {callee:=.value (.func 16),args:=_,argTypes:=_}) ?_;refine zK rfl rfl rfl (zQ rfl rfl (zX (by kernel_rfl)) (c6 _)) ?_;rintro _ _ ⟨b,rfl,rfl,_⟩)|(refine xD (.call {callee:=.value (.func 17),args:=_,argTypes:=_}) ?_;refine uC rfl zbt rfl rfl (zQ rfl rfl (zX (by kernel_rfl)) (c7 _)) ?_;rintro _ _ ⟨c,rfl,rfl,hc⟩)|(show EX _ _ (Code.seq (Code.region 3 _ _) _) _ _;refine Stuck.out ?_)|(refine vW ?_;intros)|(refine yV ?_ ?_<;>(intro z;cases z with|_ h)<;>intro hp)|exact nl|cases ‹BV _ _›|exact wG|fail
 all_goals try refine Stuck.mk ?_
 ·refine zS (σ3:=σ) .nil zG zJ ?_
  exact zY ⟨false,rfl,rfl,fun h=>(nomatch h)⟩
 ·refine zS (σ3:=σ) .nil zG zJ ?_
  exact zY ⟨false,rfl,rfl,fun h=>(nomatch h)⟩
 have hfp:=hc hp
 clear c6 c7 hc
 repeat' first|(refine xD (.call {callee:=.value (.func 18),args:=_,argTypes:=_}) ?_;refine zK rfl rfl rfl (zQ rfl rfl (zX (by kernel_rfl)) (co _)) ?_;rintro _ _ ⟨C,e,rfl,rfl,hC,he⟩)|(show EX _ _ (Code.seq (Code.region 6 _ _) _) _ _;refine Stuck.out ?_)|(refine vW ?_;intros)|(refine yV ?_ ?_<;>(intro z;cases z with|_ h)<;>intro hp)|exact nl|cases ‹BV _ _›|exact wG|fail
 all_goals try refine Stuck.mk ?_
 ·refine zS (σ3:=σ) .nil zG zJ ?_
  exact zY (boolP fun _=>hfp)
 have cr:=fun σ=>cr (he hp) C hC σ
 have hCm:(C.map clmC).length=C.length:=List.length_map _
 clear co he
 repeat' first|(refine xD (.call {callee:=.value (.func 19),args:=_,argTypes:=_}) ?_;refine zK rfl rfl rfl (zQ rfl rfl (zX (by kernel_rfl)) (cr _)) ?_;rintro _ _ ⟨P,rfl,rfl⟩)|(refine yX ?_;intros)|(refine yV ?_ ?_<;>(intro z;cases z with|_ h)<;>intro hp)|exact nl|cases ‹BV _ _›|exact wG|fail
 all_goals
  refine zS (σ3:=σ) .nil zG zJ ?_
  exact zY (boolP fun _=>hfp)
open Go.WideMaps
theorem sameO_r(L:List Ord')(hL:L.length≤100000)(σ:List Ent):SCall prog 13 [ords L,ords L] σ (Is (.bool true) σ):=by
 refine zZ func13 rfl (by simp) ?_
 have hLm:(L.map ordC).length=L.length:=List.length_map _
 refine uZ ?_;and_intros<;>first|exact nl|intros
 refine zU (fun(k:Nat)=>(⟨[(0,ords L),(1,ords L),(5,.int .i64 (k:Nat))],σ,[],f13.ntmps⟩:St)) (fun k=>k≤L.length) (fun k=>L.length-k) 0 (Nat.zero_le _) (St.le_of zC yY) ?_
 intro k hI
 by_cases hk:k<L.length
 ·obtain⟨x,hx⟩:=zH hk
  have gx:=ord_get hx
  refine uZ ?_;and_intros<;>first|exact nl|intros
  ·rename_i h _;simp at h
  ·refine⟨k+1,hk,by omega,St.le_of zC yY⟩
 ·refine uZ ?_;and_intros<;>first|exact nl|intros
  refine zW .nil zG yY (zN ?_)
  rfl
theorem sameI_r(L:List Int)(hL:L.length≤100000)(σ:List Ent):SCall prog 46 [ints L,ints L] σ (Is (.bool true) σ):=by
 refine zZ func46 rfl (by simp) ?_
 have hLm:(L.map intC).length=L.length:=List.length_map _
 refine uZ ?_;and_intros<;>first|exact nl|intros
 refine zU (fun(k:Nat)=>(⟨[(0,ints L),(1,ints L),(5,.int .i64 (k:Nat))],σ,[],Tryz.f46.ntmps⟩:St)) (fun k=>k≤L.length) (fun k=>L.length-k) 0 (Nat.zero_le _) (St.le_of zC yY) ?_
 intro k hI
 by_cases hk:k<L.length
 ·obtain⟨x,hx⟩:=zH hk
  have gx:=wU hx
  refine uZ ?_;and_intros<;>first|exact nl|intros
  refine⟨k+1,hk,by omega,St.le_of zC yY⟩
 ·refine uZ ?_;and_intros<;>first|exact nl|intros
  refine zW .nil zG yY (zN ?_)
  rfl
theorem sameR_r(r:Rf)(hp:r.parcels.length≤100000)(hr:r.rights.length≤100000)(σ:List Ent):SCall prog 14 [rfV r,rfV r] σ (Is (.bool true) σ):=by
 refine zZ func14 rfl (by simp) ?_
 have hLm:(r.parcels.map prcC).length=r.parcels.length:=List.length_map _
 have ci:=sameI_r r.rights hr
 repeat' first|(show EX _ _ (Code.seq (Code.region 1 _ _) _) _ _;refine Stuck.out ?_)|(refine vW ?_;intros)|refine zT ?_|(refine yV ?_ ?_<;>(intro z;cases z with|_ h)<;>intro hp)|exact nl|cases ‹BV _ _›|exact wG|fail
 all_goals try refine Stuck.mk ?_
 rename Nat=>b3;revert b3;rename Nat=>b2;revert b2
 intro b2 b3
 refine uZ ?_;and_intros<;>first|exact nl|intros
 refine zU (fun(k:Nat)=>(⟨[(2,.ptr b2 0),(3,.ptr b3 0),(5,.int .i64 (k:Nat))],.cells b3 (rfC r) 48::.cells b2 (rfC r) 48::σ,[],Tryz.f14.ntmps⟩:St)) (fun k=>k≤r.parcels.length) (fun k=>r.parcels.length-k) 0 (Nat.zero_le _) (St.le_of zC yY) ?_
 intro k hI
 by_cases hk:k<r.parcels.length
 ·obtain⟨x,hx⟩:=zH hk
  have gx:=prc_get hx
  clear ci
  refine uZ ?_;and_intros<;>first|exact nl|intros
  ·rename_i h _;simp at h
  ·refine⟨k+1,hk,by omega,St.le_of zC yY⟩
 ·repeat' first|((first|(apply yQ;exact zD;rfl;rfl)|(apply zwX;exact zD;rfl;rfl;intro σ' hl));refine zL ?_;exact ci _)|(refine xV ?_;and_intros<;>first|exact nl|intros)|(refine yV ?_ ?_<;>(intro z;cases z with|_ h)<;>intro hp)|exact nl|cases ‹BV _ _›|exact wG|fail
  refine zW .nil zG yY (zN ?_)
  rfl
end Go.Proofs.YtaoaafdommlhcaaGreat
