/- Parts of the proof that belong together: Jd Je. -/
import Derived.Test.YtaoaafdommlhcaaGreatHA07
import Derived.Test.YtaoaafdommlhcaaGreatHA31
set_option maxRecDepth 10000
set_option maxHeartbeats 64000000
set_option linter.unusedSimpArgs false
set_option linter.unusedVariables false
set_option autoImplicit false
open Go.Proofs.Tryz
namespace Go.Proofs.YtaoaafdommlhcaaGreat
open Go.WideMaps
structure Prc where
 reach:Int
 hour:Int
 litres:Int
 wanted:Int
 deriving DecidableEq
abbrev prcC(p:Prc):List AV:=[.int .i64 p.reach,.int .i64 p.hour,.int .i64 p.litres,.int .i64 p.wanted]
abbrev prcV(p:Prc):AV:=.agg (prcC p)
abbrev prcs(l:List Prc):AV:=.dl 4 (l.map prcC)
noncomputable def uX (d:Dis):List Pl→BkF→BkF→List Prc
 |[],_,_=>[]
 |p::l,m,U=>match d.R[p.1]? with
  |none=>[]
  |some x=>
   if tB U (atK p)=true then uX d l m (xN U (K2 x.up ((p.2:Int)-x.delay)) (.b true))
   else if zV m (atK p)=0 then uX d l m U
   else match tZ x (zV m (atK p)) with
    |none=>uX d l m (xN U (K2 x.up ((p.2:Int)-x.delay)) (.b true))
    |some v=>(if x.delay≤(p.2:Int)then [⟨p.1,(p.2:Int)-x.delay,v,zV m (atK p)⟩]else [])++uX d l (vY m (K2 x.up ((p.2:Int)-x.delay)) v) U
noncomputable def tV (d:Dis) (C:List Clm):List Prc:=uX d (yL d.R.length d.hours.toNat) (vV d C) (fun _=>none)
theorem schedule_c(d:Dis)(hd:yZ d=0)(hW:(d.R.length:Int)*d.hours≤1024)(C:List Clm)(hCl:C.length≤4096)(hCo: ∀c∈C,ClmOk d c)(σ:List Ent):
  SCall prog 29 [scnV d C] σ (Is (prcs (tV d C)) σ):=by
 refine zZ func29 rfl (by simp) ?_
 have hvv:=(zP hd).2
 have hR:=(yC (zP hd).1).1
 have hH:=xF hvv
 have cw:=fun σ=>wanted_c d hd C hCl hCo σ
 have hi0:IntV (vV d C):=wantF_int (fun k x h=>by cases h)
 have hb0: ∀q,0≤zV (vV d C) q∧zV (vV d C) q≤4398046511104:=fun q=>by
  have:=wantF_le (d:=d) (B:=0) (C:=C) (f:=fun _=>none) (fun c hc=>(hCo c hc).lt) (fun q=>by simp[zV]) q
  unfold vV
  omega
 have hTr:=wP hvv
 have hH1:1≤d.hours:=by
  have hv:=hvv
  unfold yD tY at hv
  simp[vS]at hv
  omega
 have hpf:=pls_few hW
 obtain⟨N,hN⟩: ∃N:Nat,d.hours=N:=⟨d.hours.toNat,by omega⟩
 unfold tV
 rw[hN,Int.toNat_natCast]at hpf ⊢
 generalize vV d C=f0 at cw hi0 hb0 ⊢
 obtain⟨F,hF2⟩: ∃F,F=uX d (yL d.R.length N) f0 (fun _=>none):=⟨_,rfl⟩
 rw[←hF2]
 have hRl:(d.R.map rchC).length=d.R.length:=List.length_map _
 clear hd hCo
 refine xX 110 4 ?_
 repeat' first|(refine xD (.makeMap _ _) ?_;refine tD [false,false] rfl rfl rfl (vE [false,false]) ?_;intro bm)|(refine xD (.call {callee:=.value (.func 79),args:=_,argTypes:=_}) ?_;refine zK rfl rfl rfl (zQ rfl rfl (zX (by kernel_rfl)) (cw _)) ?_;rintro _ _ ⟨bw,n,rfl,rfl⟩)|(refine yX ?_;intros)|fail
 clear cw
 rename Nat=>bu;revert bu;rename Nat=>n;revert n;rename Nat=>bw;revert bw;rename Nat=>b1;revert b1
 intro b1 bw n bu
 refine zU (fun(z:Nat×Int×BkF×BkF×Nat×Nat×Nat×Value×List Prc)=>(⟨[(1,.ptr b1 0),(2,.slv z.2.2.2.2.2.2.2.1),(3,.mp bw),(4,.mp bu),(5,.int .i64 z.2.1)],.kmap bu [false,false] z.2.2.2.1 z.2.2.2.2.2.1::.kmap bw [false,false] z.2.2.1 z.2.2.2.2.1::.cells b1 (scnC d C) 77::.row z.2.2.2.2.2.2.2.1 110 4 (z.2.2.2.2.2.2.2.2.map prcC)::σ,[],Tryz.f29.ntmps⟩:St)) (fun z=>(z.1≤d.R.length∧z.2.1=(z.1:Int)-1)∧z.2.2.2.2.2.2.2.2++uX d (yL z.1 N) z.2.2.1 z.2.2.2.1=F∧IntV z.2.2.1∧BoolV z.2.2.2.1∧(∀q,0≤zV z.2.2.1 q∧zV z.2.2.1 q≤4398046511104+z.2.2.2.2.2.2.1*1073741824)∧z.2.2.2.2.2.2.1+(yL z.1 N).length≤1024∧z.2.2.2.2.2.2.2.2.length≤z.2.2.2.2.2.2.1) (fun z=>z.1) (d.R.length,(d.R.length:Int)-1,f0,(fun _=>none),n,0,0,nilS,[]) (⟨⟨Nat.le_refl _,rfl⟩,by dsimp only;rw[List.nil_append,←hF2],hi0,(fun k x h=>by cases h),(fun q=>by have:=hb0 q;dsimp only;omega),by dsimp only;omega,Nat.le_refl _⟩) (St.le_of zC yY) ?_
 intro z hI
 obtain⟨m,r,f,U,n1,n2,c,v,acc⟩:=z
 obtain⟨⟨hI1,hI2⟩,hI3,hI6,hI7,hI8,hI9,hI10⟩:=hI
 dsimp only at hI1 hI2 hI3 hI6 hI7 hI8 hI9 hI10 ⊢
 clear hi0 hb0 hF2
 cases m with
 |zero=>
  have hj:acc=F:=by rw[←hI3];simp[yL,uX]
  have hr0:r<0:=by omega
  subst hj
  refine yW ?_;intros
  refine zS (σ3:=.row v 110 4 (acc.map prcC)::σ) .nil zG zJ ?_
  exact xS .here (.here .nil) (zY .mk)
 |succ i=>
  obtain rfl:r=(i:Int):=by omega
  rw[plsUp_succ]at hI3 hI9
  rw[List.length_append,List.length_map,List.length_range]at hI9
  clear hI2
  have hRi:(i:Int)≤64:=by omega
  obtain⟨x,hx⟩:=zH (show i<d.R.length by omega)
  have gx:(d.R.map rchC)[i]?=some (rchC x):=by rw[List.getElem?_map,hx];rfl
  have hok:=RchOk.of (yA hvv hx)
  have hup:=hTr.lt hx
  have hge:=hTr.ge hx
  have hdl:=hok.dl
  clear hTr
  refine yW ?_;intros
  rename Nat=>b6;revert b6
  intro b6
  refine zU (fun(z:Nat×BkF×BkF×Nat×Nat×Nat×Value×List Prc)=>(⟨[(1,.ptr b1 0),(2,.slv z.2.2.2.2.2.2.1),(3,.mp bw),(4,.mp bu),(5,.int .i64 (i:Int)),(6,.ptr b6 0),(32,.int .i64 d.hours),(33,.int .i64 (z.1:Nat))],.cells b6 (rchC x) 108::.kmap bu [false,false] z.2.2.1 z.2.2.2.2.1::.kmap bw [false,false] z.2.1 z.2.2.2.1::.cells b1 (scnC d C) 77::.row z.2.2.2.2.2.2.1 110 4 (z.2.2.2.2.2.2.2.map prcC)::σ,[],Tryz.f29.ntmps⟩:St)) (fun z=>z.1≤N∧z.2.2.2.2.2.2.2++uX d ((((List.range N).drop z.1).map fun h=>(i,h))++yL i N) z.2.1 z.2.2.1=F∧IntV z.2.1∧BoolV z.2.2.1∧(∀q,0≤zV z.2.1 q∧zV z.2.1 q≤4398046511104+z.2.2.2.2.2.1*1073741824)∧z.2.2.2.2.2.1+((N-z.1)+(yL i N).length)≤1024∧z.2.2.2.2.2.2.2.length≤z.2.2.2.2.2.1) (fun z=>N-z.1) (0,f,U,n1,n2,c,v,acc) (⟨Nat.zero_le _,hI3,hI6,hI7,hI8,hI9,hI10⟩) (St.le_of zC yY) ?_
  intro z hI
  clear hI3 hI6 hI7 hI8 hI9 hI10
  obtain⟨u,f,U,n1,n2,c,v,acc⟩:=z
  obtain⟨hJ1,hJ2,hJ5,hJ6,hJ7,hJ8,hJ9⟩:=hI
  dsimp only at hJ1 hJ2 hJ5 hJ6 hJ7 hJ8 hJ9 ⊢
  by_cases hu:u<N
  rotate_left
  ·obtain rfl:u=N:=by omega
   rw[List.drop_of_length_le (by simp),List.map_nil,List.nil_append]at hJ2
   have hge9:¬ (u:Int)<d.hours:=by omega
   refine yW ?_;intros
   exact⟨(i,(i:Int)-1,f,U,n1,n2,c,v,acc),⟨⟨by dsimp only;omega,rfl⟩,hJ2,hJ5,hJ6,hJ7,by dsimp only;omega,hJ9⟩,by dsimp only;omega,(St.le_of zC zJ)⟩
  have hlu:(u:Int)<d.hours:=by omega
  rw[qU hu,List.map_cons,List.cons_append]at hJ2
  obtain⟨Q,hQ⟩: ∃Q,Q=(((List.range N).drop (u+1)).map fun h=>(i,h))++yL i N:=⟨_,rfl⟩
  rw[←hQ,uX]at hJ2
  dsimp only at hJ2
  rw[hx]at hJ2
  dsimp only at hJ2
  have hkf:KFit [false,false] (K2 (i:Int) (u:Int)):=tP (by omega) (by omega)
  have hkf2:KFit [false,false] (K2 x.up ((u:Int)-x.delay)):=tP (by omega) (by omega)
  have hvg:=xZ hJ5 (K2 (i:Int) (u:Int))
  have hub:=tB_getD hJ6 (K2 (i:Int) (u:Int))
  have hbw:=hJ7 (K2 (i:Int) (u:Int))
  obtain⟨w,hw⟩: ∃w,zV f (K2 (i:Int) (u:Int))=w:=⟨_,rfl⟩
  obtain⟨ub,hub2⟩: ∃b,tB U (K2 (i:Int) (u:Int))=b:=⟨_,rfl⟩
  rw[hw]at hvg hbw hJ2
  rw[hub2]at hub hJ2
  clear hw hub2 hx
  by_cases hsk:w=0∧ub=false
  ·obtain⟨rfl,rfl⟩:=hsk
   rw[if_neg (by decide),if_pos rfl]at hJ2
   repeat' first|(refine xD (.lookup 164 _ _ false) ?_;first|refine uS rfl rfl rfl rfl (zR (z:=.b false) (k:=K2 (i:Int) (u:Int)) rfl yU yT rfl rfl yP rfl rfl hkf hub rfl) ?_|refine wW rfl rfl rfl (zR (z:=.b false) (k:=K2 (i:Int) (u:Int)) rfl yU yT rfl rfl yP rfl rfl hkf hub rfl) ?_)|(refine xD (.lookup 98 _ _ false) ?_;first|refine uS rfl rfl rfl rfl (zR (z:=.i 0) (k:=K2 (i:Int) (u:Int)) rfl yU yT rfl rfl yP rfl rfl hkf hvg rfl) ?_|refine wW rfl rfl rfl (zR (z:=.i 0) (k:=K2 (i:Int) (u:Int)) rfl yU yT rfl rfl yP rfl rfl hkf hvg rfl) ?_)|(refine yX ?_;intros)|(refine yV ?_ ?_<;>(intro z;cases z with|_ h)<;>intro hp)|exact nl|fail
   exact⟨(u+1,f,U,n1,n2,c,v,acc),⟨hu,by dsimp only;rw[←hQ];exact hJ2,hJ5,hJ6,hJ7,by dsimp only;omega,hJ9⟩,by dsimp only;omega,(St.le_of zC zJ)⟩
  have hZ: ∃ok:Bool,(ok=true→ub=false∧ ∃y,tZ x w=some y∧acc++((if x.delay≤(u:Int)then [⟨i,(u:Int)-x.delay,y,w⟩]else [])++uX d Q (vY f (K2 x.up ((u:Int)-x.delay)) y) U)=F)∧(ok=false→acc++uX d Q f (xN U (K2 x.up ((u:Int)-x.delay)) (.b true))=F∧(ub=true∨tZ x w=none)):=by
   cases ub with
   |true=>exact⟨false,(fun h=>by cases h),fun _=>⟨by rw[if_pos rfl]at hJ2;exact hJ2,.inl rfl⟩⟩
   |false=>
    have hw0:w≠0:=fun h=>hsk ⟨h,rfl⟩
    rw[if_neg (by decide),if_neg hw0]at hJ2
    cases hik:tZ x w with
    |none=>rw[hik]at hJ2;exact⟨false,(fun h=>by cases h),fun _=>⟨hJ2,.inr rfl⟩⟩
    |some y=>rw[hik]at hJ2;exact⟨true,fun _=>⟨rfl,y,rfl,hJ2⟩,(fun h=>by cases h)⟩
  clear hJ2
  repeat' first|(show EX _ _ (Code.seq (Code.region 10 _ _) _) _ _;refine Stuck.out ?_)|(refine vW ?_;intros)|(refine yV ?_ ?_<;>(intro z;cases z with|_ h)<;>intro hp)|exact nl|fail
  all_goals try refine Stuck.mk ?_
  rename Nat=>b8;revert b8
  intro b8
  refine pG (fun(_:Unit)=>⟨[(1,.ptr b1 0),(2,.slv v),(3,.mp bw),(4,.mp bu),(5,.int .i64 (i:Int)),(6,.ptr b6 0),(7,.int .i64 (u:Nat)),(8,.ptr b8 0),(32,.int .i64 d.hours),(33,.int .i64 (u:Nat))],.cells b8 [.int .i64 i,.int .i64 (u:Nat)] 113::.cells b6 (rchC x) 108::.kmap bu [false,false] U n2::.kmap bw [false,false] f n1::.cells b1 (scnC d C) 77::.row v 110 4 (acc.map prcC)::σ,[],Tryz.f29.ntmps⟩) ?_ ?_
  ·cases ub with
   |true=>
    by_cases hw0:w=0
    ·subst hw0
     repeat' first|(refine xD (.lookup 164 _ _ false) ?_;first|refine uS rfl rfl rfl rfl (zR (z:=.b false) (k:=K2 (i:Int) (u:Int)) rfl yU yT rfl rfl yP rfl rfl hkf hub rfl) ?_|refine wW rfl rfl rfl (zR (z:=.b false) (k:=K2 (i:Int) (u:Int)) rfl yU yT rfl rfl yP rfl rfl hkf hub rfl) ?_)|(refine xD (.lookup 98 _ _ false) ?_;first|refine uS rfl rfl rfl rfl (zR (z:=.i 0) (k:=K2 (i:Int) (u:Int)) rfl yU yT rfl rfl yP rfl rfl hkf hvg rfl) ?_|refine wW rfl rfl rfl (zR (z:=.i 0) (k:=K2 (i:Int) (u:Int)) rfl yU yT rfl rfl yP rfl rfl hkf hvg rfl) ?_)|(refine yX ?_;intros)|(refine yV ?_ ?_<;>(intro z;cases z with|_ h)<;>intro hp)|exact nl|fail
     exact⟨(),_,.refl _,(St.le_of zC zJ)⟩
    ·repeat' first|(refine xD (.lookup 98 _ _ false) ?_;first|refine uS rfl rfl rfl rfl (zR (z:=.i 0) (k:=K2 (i:Int) (u:Int)) rfl yU yT rfl rfl yP rfl rfl hkf hvg rfl) ?_|refine wW rfl rfl rfl (zR (z:=.i 0) (k:=K2 (i:Int) (u:Int)) rfl yU yT rfl rfl yP rfl rfl hkf hvg rfl) ?_)|(refine yX ?_;intros)|(refine yV ?_ ?_<;>(intro z;cases z with|_ h)<;>intro hp)|exact nl|fail
     exact⟨(),_,.refl _,(St.le_of zC zJ)⟩
   |false=>
    have hw0:w≠0:=fun h=>hsk ⟨h,rfl⟩
    repeat' first|(refine xD (.lookup 98 _ _ false) ?_;first|refine uS rfl rfl rfl rfl (zR (z:=.i 0) (k:=K2 (i:Int) (u:Int)) rfl yU yT rfl rfl yP rfl rfl hkf hvg rfl) ?_|refine wW rfl rfl rfl (zR (z:=.i 0) (k:=K2 (i:Int) (u:Int)) rfl yU yT rfl rfl yP rfl rfl hkf hvg rfl) ?_)|(refine yX ?_;intros)|(refine yV ?_ ?_<;>(intro z;cases z with|_ h)<;>intro hp)|exact nl|fail
    exact⟨(),_,.refl _,(St.le_of zC zJ)⟩
  intro _
  repeat' first|(show EX _ _ (Code.seq (Code.region 13 _ _) _) _ _;refine Stuck.out ?_)|(refine vW ?_;intros)|fail
  all_goals try refine Stuck.mk ?_
  rename Nat=>b9;revert b9
  intro b9
  refine pG (fun(p:{p:Int×Bool//(p.2=true→tZ x w=some (max p.1 x.siphon)∧ub=false∧0≤p.1∧p.1≤1073741824)∧(p.2=false→(ub=true∨tZ x w=none)∧0≤p.1∧p.1≤1073741824)})=>⟨[(1,.ptr b1 0),(2,.slv v),(3,.mp bw),(4,.mp bu),(5,.int .i64 (i:Int)),(6,.ptr b6 0),(7,.int .i64 (u:Nat)),(8,.ptr b8 0),(9,.ptr b9 0),(10,.int .i64 p.1.1),(11,.bool p.1.2),(32,.int .i64 d.hours),(33,.int .i64 (u:Nat))],.cells b9 [.int .i64 x.up,.int .i64 ((u:Int)-x.delay)] 113::.cells b8 [.int .i64 i,.int .i64 (u:Nat)] 113::.cells b6 (rchC x) 108::.kmap bu [false,false] U n2::.kmap bw [false,false] f n1::.cells b1 (scnC d C) 77::.row v 110 4 (acc.map prcC)::σ,[],Tryz.f29.ntmps⟩) ?_ ?_
  ·cases ub with
   |true=>
    repeat' first|(refine xD (.lookup 164 _ _ false) ?_;first|refine uS rfl rfl rfl rfl (zR (z:=.b false) (k:=K2 (i:Int) (u:Int)) rfl yU yT rfl rfl yP rfl rfl hkf hub rfl) ?_|refine wW rfl rfl rfl (zR (z:=.b false) (k:=K2 (i:Int) (u:Int)) rfl yU yT rfl rfl yP rfl rfl hkf hub rfl) ?_)|(refine yX ?_;intros)|(refine yV ?_ ?_<;>(intro z;cases z with|_ h)<;>intro hp)|exact nl|fail
    exact⟨⟨(0,false),(fun h=>by cases h),fun _=>⟨.inl rfl,by dsimp only;omega,by dsimp only;omega⟩⟩,_,.refl _,(St.le_of zC zJ)⟩
   |false=>
    have hw0:w≠0:=fun h=>hsk ⟨h,rfl⟩
    by_cases hw1:w≤1073741824
    ·have hc:=need_c x hok w (by omega)
     have hiN:tZ x w=if uP x w≤1073741824 then some (max (uP x w:Int) x.siphon)else none:=by
      unfold tZ;rw[if_neg hw0,if_neg (by omega)]
     unfold needV at hc
     by_cases hn:uP x w≤1073741824
     ·rw[if_pos hn]at hc hiN
      repeat' first|(refine xD (.lookup 164 _ _ false) ?_;first|refine uS rfl rfl rfl rfl (zR (z:=.b false) (k:=K2 (i:Int) (u:Int)) rfl yU yT rfl rfl yP rfl rfl hkf hub rfl) ?_|refine wW rfl rfl rfl (zR (z:=.b false) (k:=K2 (i:Int) (u:Int)) rfl yU yT rfl rfl yP rfl rfl hkf hub rfl) ?_)|(refine xD (.lookup 98 _ _ false) ?_;first|refine uS rfl rfl rfl rfl (zR (z:=.i 0) (k:=K2 (i:Int) (u:Int)) rfl yU yT rfl rfl yP rfl rfl hkf hvg rfl) ?_|refine wW rfl rfl rfl (zR (z:=.i 0) (k:=K2 (i:Int) (u:Int)) rfl yU yT rfl rfl yP rfl rfl hkf hvg rfl) ?_)|(refine yX ?_;intros)|(refine yV ?_ ?_<;>(intro z;cases z with|_ h)<;>intro hp)|exact nl|fail
      refine wH (fun e=>e=.cells b8 [.int .i64 i,.int .i64 (u:Nat)] 113∨e=.cells b6 (rchC x) 108∨e=.kmap bw [false,false] f n1) [] rfl rfl ?_
      repeat' first|(refine zB ?_;intros)|(apply zvI;exact zD;rfl;intro σ' hl;first|((exact zR (z:=.i 0) (k:=K2 (i:Int) (u:Int)) rfl yU yT rfl rfl yP rfl rfl hkf hvg rfl))|((exact zQ rfl rfl (zX (by kernel_rfl)) (hc _))))|fail
      exact⟨⟨((uP x w:Nat),true),(fun _=>⟨hiN,rfl,by dsimp only;omega,by dsimp only;omega⟩),(fun h=>by cases h)⟩,_,.refl _,(St.le_of zC zJ)⟩
     ·rw[if_neg hn]at hc hiN
      repeat' first|(refine xD (.lookup 164 _ _ false) ?_;first|refine uS rfl rfl rfl rfl (zR (z:=.b false) (k:=K2 (i:Int) (u:Int)) rfl yU yT rfl rfl yP rfl rfl hkf hub rfl) ?_|refine wW rfl rfl rfl (zR (z:=.b false) (k:=K2 (i:Int) (u:Int)) rfl yU yT rfl rfl yP rfl rfl hkf hub rfl) ?_)|(refine xD (.lookup 98 _ _ false) ?_;first|refine uS rfl rfl rfl rfl (zR (z:=.i 0) (k:=K2 (i:Int) (u:Int)) rfl yU yT rfl rfl yP rfl rfl hkf hvg rfl) ?_|refine wW rfl rfl rfl (zR (z:=.i 0) (k:=K2 (i:Int) (u:Int)) rfl yU yT rfl rfl yP rfl rfl hkf hvg rfl) ?_)|(refine yX ?_;intros)|(refine yV ?_ ?_<;>(intro z;cases z with|_ h)<;>intro hp)|exact nl|fail
      refine wH (fun e=>e=.cells b8 [.int .i64 i,.int .i64 (u:Nat)] 113∨e=.cells b6 (rchC x) 108∨e=.kmap bw [false,false] f n1) [] rfl rfl ?_
      repeat' first|(refine zB ?_;intros)|(apply zvI;exact zD;rfl;intro σ' hl;first|((exact zR (z:=.i 0) (k:=K2 (i:Int) (u:Int)) rfl yU yT rfl rfl yP rfl rfl hkf hvg rfl))|((exact zQ rfl rfl (zX (by kernel_rfl)) (hc _))))|fail
      exact⟨⟨(0,false),(fun h=>by cases h),fun _=>⟨.inr hiN,by dsimp only;omega,by dsimp only;omega⟩⟩,_,.refl _,(St.le_of zC zJ)⟩
    ·repeat' first|(refine xD (.lookup 164 _ _ false) ?_;first|refine uS rfl rfl rfl rfl (zR (z:=.b false) (k:=K2 (i:Int) (u:Int)) rfl yU yT rfl rfl yP rfl rfl hkf hub rfl) ?_|refine wW rfl rfl rfl (zR (z:=.b false) (k:=K2 (i:Int) (u:Int)) rfl yU yT rfl rfl yP rfl rfl hkf hub rfl) ?_)|(refine xD (.lookup 98 _ _ false) ?_;first|refine uS rfl rfl rfl rfl (zR (z:=.i 0) (k:=K2 (i:Int) (u:Int)) rfl yU yT rfl rfl yP rfl rfl hkf hvg rfl) ?_|refine wW rfl rfl rfl (zR (z:=.i 0) (k:=K2 (i:Int) (u:Int)) rfl yU yT rfl rfl yP rfl rfl hkf hvg rfl) ?_)|(refine yX ?_;intros)|(refine yV ?_ ?_<;>(intro z;cases z with|_ h)<;>intro hp)|exact nl|fail
     exact⟨⟨(0,false),(fun h=>by cases h),fun _=>⟨.inr (by unfold tZ;rw[if_neg hw0,if_pos (by omega)]),by dsimp only;omega,by dsimp only;omega⟩⟩,_,.refl _,(St.le_of zC zJ)⟩
  rintro⟨⟨nv,ok⟩,hv1,hv2⟩
  dsimp only at hv1 hv2 ⊢
  obtain⟨okz,hz1,hz2⟩:=hZ
  have hs1:=hok.cp
  clear hub hsk hbw
  cases ok with
  |false=>
   have hz:acc++uX d Q f (xN U (K2 x.up ((u:Int)-x.delay)) (.b true))=F:=by
    cases okz with
    |false=>exact(hz2 rfl).1
    |true=>
     obtain⟨hub',y,hy,_⟩:=hz1 rfl
     rcases (hv2 rfl).1 with h|h
     ·rw[hub']at h;cases h
     ·rw[hy]at h;cases h
   obtain⟨_,hnv⟩:=hv2 rfl
   clear hz1 hz2 hv1 hv2
   repeat' first|(refine xD (.mapUpdate _ _ _ _) ?_;refine yE rfl rfl (wT (k:=K2 x.up ((u:Int)-x.delay)) (v:=.b true) rfl yU yT rfl rfl rfl hkf2 rfl rfl qJ rfl) ?_)|(refine zB ?_;intros)|(refine xB ?_;intros)|fail
   exact⟨(u+1,f,xN U (K2 x.up ((u:Int)-x.delay)) (.b true),n1,cntK U (K2 x.up ((u:Int)-x.delay)) n2,c,v,acc),⟨hu,by dsimp only;rw[←hQ];exact hz,hJ5,hJ6.upd _ _,hJ7,by dsimp only;omega,hJ9⟩,by dsimp only;omega,(St.le_of zC zJ)⟩
  |true=>
   obtain⟨hik,hub',hnv⟩:=hv1 rfl
   have hz:acc++((if x.delay≤(u:Int)then [⟨i,(u:Int)-x.delay,max nv x.siphon,w⟩]else [])++uX d Q (vY f (K2 x.up ((u:Int)-x.delay)) (max nv x.siphon)) U)=F:=by
    cases okz with
    |false=>
     rcases (hz2 rfl).2 with h|h
     ·rw[hub']at h;cases h
     ·rw[hik]at h;cases h
    |true=>
     obtain⟨_,y,hy,h⟩:=hz1 rfl
     rw[hik]at hy
     cases hy
     exact h
   clear hz1 hz2 hv1 hv2 hik hub'
   have hb2:=hJ7 (K2 x.up ((u:Int)-x.delay))
   have hint:=hJ5.add (K2 x.up ((u:Int)-x.delay)) (max nv x.siphon)
   have hbd: ∀q,0≤zV (vY f (K2 x.up ((u:Int)-x.delay)) (max nv x.siphon)) q∧zV (vY f (K2 x.up ((u:Int)-x.delay)) (max nv x.siphon)) q≤4398046511104+((c+1:Nat):Int)*1073741824:=fun q=>by
    have:=hJ7 q
    rw[wD]
    split<;>omega
   have hmx:0≤max nv x.siphon∧max nv x.siphon≤1073741824:=by omega
   clear hJ7
   have hacl:(acc.map prcC).length=acc.length:=List.length_map _
   by_cases hT:x.delay≤(u:Int)
   ·rw[if_pos hT,←List.append_assoc]at hz
    have hmp:acc.map prcC++[[.int .i64 i,.int .i64 ((u:Int)-x.delay),.int .i64 (max nv x.siphon),.int .i64 w]]=(acc++[(⟨i,(u:Int)-x.delay,max nv x.siphon,w⟩:Prc)]).map prcC:=by simp
    repeat' first|(refine zB ?_;intros)|(refine yV ?_ ?_<;>(intro z;cases z with|_ h)<;>intro hp)|exact nl|fail
    refine yB (fun e=>e=.cells b8 [.int .i64 i,.int .i64 (u:Nat)] 113∨e=.cells b9 [.int .i64 x.up,.int .i64 ((u:Int)-x.delay)] 113∨e=.kmap bw [false,false] f n1) [9,10] 11 rfl (by kernel_rfl) rfl ?_
    simp only[List.take_succ_cons,List.take_zero,List.drop_succ_cons,List.drop_zero]
    repeat' first|(refine zB ?_;intros)|(apply zvI;exact zD;rfl;intro σ' hl;(exact zR (z:=.i 0) (k:=K2 (i:Int) (u:Int)) rfl yU yT rfl rfl yP rfl rfl hkf hvg rfl))|(refine xB ?_;intros)|fail
    refine yB (fun e=>e=.cells b9 [.int .i64 x.up,.int .i64 ((u:Int)-x.delay)] 113) [2,5] 7 rfl (by kernel_rfl) rfl ?_
    simp only[List.take_succ_cons,List.take_zero,List.drop_succ_cons,List.drop_zero]
    repeat' first|(refine zgd ?_;first|(refine xH rfl rfl (zR (z:=.i 0) (k:=K2 x.up ((u:Int)-x.delay)) rfl yU yT rfl rfl yP rfl rfl hkf2 (xZ hJ5 _) rfl) ?_)|(refine yN rfl rfl (wS (z:=.i 0) (k:=K2 x.up ((u:Int)-x.delay)) rfl yU yT rfl rfl rfl rfl hkf2 (fun _=>qJ)) ?_;rintro _ _ ⟨es,clock,e,hE,he,hek⟩;refine⟨zks,?_⟩)|(refine xH rfl rfl (xC (z:=.i 0) (k:=K2 x.up ((u:Int)-x.delay)) rfl yU yT rfl rfl hE yP rfl rfl hkf2 (vH hJ5 _) rfl) ?_))|(refine xD (.entryStore _ _ _ _) ?_;refine yE rfl rfl (xQ (v:=.i _) hE he hek rfl rfl rfl rfl (qJ) (wA _ _ _ _)) ?_)|(refine yX ?_;intros)|refine vX rfl rfl rfl ?_ ?_|fail
    all_goals
     try rw[uE (show-9223372036854775808≤zV f (K2 x.up ((u:Int)-x.delay))+max nv x.siphon∧zV f (K2 x.up ((u:Int)-x.delay))+max nv x.siphon≤9223372036854775807 by omega)]
     exact⟨(u+1,vY f (K2 x.up ((u:Int)-x.delay)) (max nv x.siphon),U,cntK f (K2 x.up ((u:Int)-x.delay)) n1,n2,c+1,_,acc++[⟨i,(u:Int)-x.delay,max nv x.siphon,w⟩]),⟨hu,by dsimp only;rw[←hQ];exact hz,hint,hJ6,hbd,by dsimp only;omega,by dsimp only;rw[List.length_append,List.length_singleton];omega⟩,by dsimp only;omega,by dsimp only;rw[←hmp];exact(St.le_of zC zJ)⟩
   ·rw[if_neg hT,List.nil_append]at hz
    repeat' first|(refine zB ?_;intros)|(refine yV ?_ ?_<;>(intro z;cases z with|_ h)<;>intro hp)|exact nl|fail
    refine yB (fun e=>e=.cells b9 [.int .i64 x.up,.int .i64 ((u:Int)-x.delay)] 113) [2,5] 7 rfl (by kernel_rfl) rfl ?_
    simp only[List.take_succ_cons,List.take_zero,List.drop_succ_cons,List.drop_zero]
    repeat' first|(refine zgd ?_;first|(refine xH rfl rfl (zR (z:=.i 0) (k:=K2 x.up ((u:Int)-x.delay)) rfl yU yT rfl rfl yP rfl rfl hkf2 (xZ hJ5 _) rfl) ?_)|(refine yN rfl rfl (wS (z:=.i 0) (k:=K2 x.up ((u:Int)-x.delay)) rfl yU yT rfl rfl rfl rfl hkf2 (fun _=>qJ)) ?_;rintro _ _ ⟨es,clock,e,hE,he,hek⟩;refine⟨zks,?_⟩)|(refine xH rfl rfl (xC (z:=.i 0) (k:=K2 x.up ((u:Int)-x.delay)) rfl yU yT rfl rfl hE yP rfl rfl hkf2 (vH hJ5 _) rfl) ?_))|(refine xD (.entryStore _ _ _ _) ?_;refine yE rfl rfl (xQ (v:=.i _) hE he hek rfl rfl rfl rfl (qJ) (wA _ _ _ _)) ?_)|(refine yX ?_;intros)|refine vX rfl rfl rfl ?_ ?_|fail
    all_goals
     try rw[uE (show-9223372036854775808≤zV f (K2 x.up ((u:Int)-x.delay))+max nv x.siphon∧zV f (K2 x.up ((u:Int)-x.delay))+max nv x.siphon≤9223372036854775807 by omega)]
     exact⟨(u+1,vY f (K2 x.up ((u:Int)-x.delay)) (max nv x.siphon),U,cntK f (K2 x.up ((u:Int)-x.delay)) n1,n2,c+1,v,acc),⟨hu,by dsimp only;rw[←hQ];exact hz,hint,hJ6,hbd,by dsimp only;omega,by dsimp only;omega⟩,by dsimp only;omega,(St.le_of zC zJ)⟩
open Go.Shelf Go.Sort Go.RowKit Go.WideMaps
instance:Inhabited Prc:=⟨⟨0,0,0,0⟩⟩
abbrev prcE(p:Prc):List Value:=[.int .i64 p.reach,.int .i64 p.hour,.int .i64 p.litres,.int .i64 p.wanted]
theorem prc_rel(M:Mem)(l:List Prc): ∀vs,VRels M (l.map prcC).flatten vs↔vs=l.flatMap prcE:=by
 induction l with
 |nil=>intro vs;cases vs<;>simp[VRels]
 |cons x l ih=>
  intro vs
  simp only[List.map_cons,List.flatten_cons,List.flatMap_cons,List.cons_append,List.nil_append]
  constructor
  ·intro h
   obtain⟨v1,r1,rfl,h1,h⟩:=h
   obtain⟨v2,r2,rfl,h2,h⟩:=h
   obtain⟨v3,r3,rfl,h3,h⟩:=h
   obtain⟨v4,r4,rfl,h4,h⟩:=h
   simp only[VRel]at h1 h2 h3 h4
   subst h1 h2 h3 h4
   rw[(ih _).1 h]
  ·rintro rfl
   exact⟨_,_,rfl,rfl,_,_,rfl,rfl,_,_,rfl,rfl,_,_,rfl,rfl,(ih _).2 rfl⟩
def pR(p:Prc):List Int:=[-p.reach,p.hour]
theorem cmpI_neg(a b:Int):wQ b a=wQ (-a) (-b):=by
 unfold wQ
 have e1:(b<a)=(-a< -b):=by apply propext;omega
 have e2:(a<b)=(-b< -a):=by apply propext;omega
 simp only[e1,e2]
theorem bel2_c(x y:Prc)(σ:List Ent):SCall prog 77 [prcV x,prcV y] σ (Is (.int .i64 (pV (pR x) (pR y))) σ):=by
 refine zZ func77 rfl (by simp) ?_
 have e:pV (pR x) (pR y)=orI [wQ y.reach x.reach,wQ x.hour y.hour]:=by
  unfold pV pR
  rw[cmpI_neg x.reach y.reach]
  rfl
 rw[e]
 refine yW ?_;intros
 refine wH anyK [] rfl rfl ?_
 repeat' first|(refine zB ?_;intros)|(apply zvI;exact zD;rfl;intro σ' hl;first|((exact zQ rfl rfl (zX (by kernel_rfl)) (cmpI_c _ _ _)))|((exact zQ rfl rfl (zX (by kernel_rfl)) (or_c [wQ y.reach x.reach,wQ x.hour y.hour] (by simp) _)))|((exact vF (xT rfl rfl (by decide) rfl rfl zck))))|fail
 all_goals
  refine zS (σ3:=σ) .nil zG zJ ?_
  exact zY .mk
def Tryz.sortPrc_ren:Go.Shelf.Ren:=⟨fun|6=>76|15=>113|14=>130|28=>173|29=>174|20=>192|21=>193|22=>194|23=>195|24=>196|25=>197|26=>198|27=>199|46=>244|47=>228|48=>229|49=>245|50=>246|57=>277|n=>n,fun|22=>46|24=>110|25=>170|3=>3|39=>193|0=>0|53=>275|55=>277|4=>4|46=>269|45=>268|50=>118|5=>5|9=>9|66=>323|70=>327|76=>351|77=>352|n=>n,fun|n=>n⟩
theorem Tryz.sortPrc:Go.Proofs.SlLaysF0.n6 prog Tryz.sortPrc_ren:={
 mixed:=by kernel_rfl
 f6:=⟨f76.name,by decide,func76.trans (congrArg some (by kernel_rfl))⟩
 f14:=⟨f130.name,by decide,func130.trans (congrArg some (by kernel_rfl))⟩
 f15:=func113.trans (congrArg some (by kernel_rfl))
 f20:=⟨f192.name,by decide,func192.trans (congrArg some (by kernel_rfl))⟩
 f21:=⟨f193.name,by decide,func193.trans (congrArg some (by kernel_rfl))⟩
 f22:=⟨f194.name,by decide,func194.trans (congrArg some (by kernel_rfl))⟩
 f23:=⟨f195.name,by decide,func195.trans (congrArg some (by kernel_rfl))⟩
 f24:=⟨f196.name,by decide,func196.trans (congrArg some (by kernel_rfl))⟩
 f25:=⟨f197.name,by decide,func197.trans (congrArg some (by kernel_rfl))⟩
 f26:=⟨f198.name,by decide,func198.trans (congrArg some (by kernel_rfl))⟩
 f27:=⟨f199.name,by decide,func199.trans (congrArg some (by kernel_rfl))⟩
 f28:=func173.trans (congrArg some (by kernel_rfl))
 f29:=func174.trans (congrArg some (by kernel_rfl))
 f46:=⟨f244.name,by decide,func244.trans (congrArg some (by kernel_rfl))⟩
 f47:=func228.trans (congrArg some (by kernel_rfl))
 f48:=func229.trans (congrArg some (by kernel_rfl))
 f49:=⟨f245.name,by decide,func245.trans (congrArg some (by kernel_rfl))⟩
 f50:=⟨f246.name,by decide,func246.trans (congrArg some (by kernel_rfl))⟩
 f57:=⟨f277.name,by decide,func277.trans (congrArg some (by kernel_rfl))⟩
 t0:=Tryz.underlying0
 a0:=Tryz.isAgg0
 z0:=Tryz.sizeOf0
 v0:=Tryz.zeroValue0
 t3:=Tryz.underlying3
 a3:=Tryz.isAgg3
 z3:=Tryz.sizeOf3
 v3:=Tryz.zeroValue3
 t4:=Tryz.underlying4
 a4:=Tryz.isAgg4
 z4:=Tryz.sizeOf4
 v4:=Tryz.zeroValue4
 t5:=Tryz.underlying5
 a5:=Tryz.isAgg5
 z5:=Tryz.sizeOf5
 v5:=Tryz.zeroValue5
 t9:=Tryz.underlying9
 a9:=Tryz.isAgg9
 z9:=Tryz.sizeOf9
 v9:=Tryz.zeroValue9
 t22:=Tryz.underlying46
 a22:=Tryz.isAgg46
 z22:=Tryz.sizeOf46
 v22:=Tryz.zeroValue46
 t25:=Tryz.underlying170
 a25:=Tryz.isAgg170
 z25:=Tryz.sizeOf170
 v25:=Tryz.zeroValue170
 t39:=Tryz.underlying193
 a39:=Tryz.isAgg193
 z39:=Tryz.sizeOf193
 v39:=Tryz.zeroValue193
 t45:=Tryz.underlying268
 a45:=Tryz.isAgg268
 z45:=Tryz.sizeOf268
 v45:=Tryz.zeroValue268
 t46:=Tryz.underlying269
 a46:=Tryz.isAgg269
 z46:=Tryz.sizeOf269
 v46:=Tryz.zeroValue269
 t50:=Tryz.underlying118
 a50:=Tryz.isAgg118
 z50:=Tryz.sizeOf118
 v50:=Tryz.zeroValue118
 t53:=Tryz.underlying275
 a53:=Tryz.isAgg275
 z53:=Tryz.sizeOf275
 v53:=Tryz.zeroValue275
 t55:=Tryz.underlying277
 a55:=Tryz.isAgg277
 z55:=Tryz.sizeOf277
 v55:=Tryz.zeroValue277
 t66:=Tryz.underlying323
 a66:=Tryz.isAgg323
 z66:=Tryz.sizeOf323
 v66:=Tryz.zeroValue323
 t70:=Tryz.underlying327
 a70:=Tryz.isAgg327
 z70:=Tryz.sizeOf327
 v70:=Tryz.zeroValue327
 t76:=Tryz.underlying351
 a76:=Tryz.isAgg351
 z76:=Tryz.sizeOf351
 v76:=Tryz.zeroValue351
 t77:=Tryz.underlying352
 a77:=Tryz.isAgg352
 z77:=Tryz.sizeOf352
 v77:=Tryz.zeroValue352}
theorem sortPrc_c{l:List Prc}{v:Value}{σ:List Ent}{F:Ent→List Ent}(hb:l.length≤4000000)(hu: ∀e',Upd σ (.row v 110 4 (l.map prcC)) e' (F e')):
  SCall prog 76 [.slv v,.fn (.func 77) [] []] σ (fun r τ=>r=.tup []∧ ∃S:List Prc,S.Perm l∧S.Pairwise (fun a b=>ltOf (fun a b=>pV (pR a) (pR b)) b a=false)∧τ=F (.row v 110 4 (S.map prcC))):=
 sortK_in Tryz.sortPrc (enc:=prcE) (av:=prcC) (by decide) (fun w=>(xE (b:=true) (sz:=4) rfl w).1) (fun w=>(xE (b:=true) (sz:=4) rfl w).2) (fun _=>rfl)
  (fun x v hv=>by simp only[prcE,List.mem_cons,List.not_mem_nil,or_false]at hv;rcases hv with rfl|rfl|rfl|rfl<;>rfl)
  (fun M x vs h=>by subst h;have:=(prc_rel M [x] _).2 rfl;simpa using this) prc_rel (fun _=>rfl) (swo_lex (n:=2) fun _=>rfl)
  (enters_of func77 (by kernel_rfl) rfl) (fun x y=>bel2_c x y []) (by omega) hu
def seedB(d:Dis)(f:Flt)(p:Prc):Bool:=match d.R[p.reach.toNat]? with
 |none=>false
 |some x=>if f.kind=1 then decide (p.reach=f.index)&&decide (p.hour=f.hour)else if f.kind=3 then decide (p.reach=f.index)&&decide (p.hour≤f.hour)&&decide (f.hour-x.delay<p.hour)
  else if f.kind=4 then decide (p.reach=0)else decide (x.up=f.index)&&decide (p.hour=f.hour)
def PrcFit(d:Dis)(p:Prc):Prop:= ∃(i:Nat) (x:Rch),p.reach=i∧d.R[i]?=some x∧(1≤x.delay∧x.delay≤16)∧(-1≤x.up∧x.up≤64)∧0≤p.hour∧p.hour≤4096
theorem seed_c(d:Dis)(f:Flt)(hf:0≤f.hour∧f.hour≤4096)(p:Prc)(hp0:PrcFit d p){b5 b7:Nat}{σ:List Ent}(hm1:Ent.cells b5 (fltC f) 73∈σ)(hm2:Ent.cells b7 [rchs d.R] 24∈σ):
  SCall prog 74 [prcV p,.ptr b5 0,.ptr b7 0] σ (Is (.bool (seedB d f p)) σ):=by
 refine zZ func74 rfl (by simp) ?_
 obtain⟨i,x,e1,hx,h1,h2,h3⟩:=hp0
 have gx:(d.R.map rchC)[i]?=some (rchC x):=by rw[List.getElem?_map,hx];rfl
 unfold seedB
 obtain⟨pr,ph,pl,pw⟩:=p
 dsimp only at e1 h3 ⊢
 subst e1
 rw[Int.toNat_natCast,hx]
 dsimp only
 clear hx
 by_cases k1:f.kind=1
 ·rw[if_pos k1]
  refine uZ ?_;and_intros<;>first|exact nl|intros
  all_goals
   refine zW .nil zG yY (zN ?_)
   first
    |(simp[*];done)
    |(rw[Bool.eq_iff_iff];simp only[Bool.and_eq_true,decide_eq_true_eq,beq_iff_eq,Bool.false_eq_true,false_iff,Bool.true_eq,true_and,and_true,iff_true,true_iff]<;>omega)
 rw[if_neg k1]
 by_cases k3:f.kind=3
 ·rw[if_pos k3]
  refine uZ ?_;and_intros<;>first|exact nl|intros
  all_goals
   refine zW .nil zG yY (zN ?_)
   first
    |(simp[*];done)
    |(rw[Bool.eq_iff_iff];simp only[Bool.and_eq_true,decide_eq_true_eq,beq_iff_eq,Bool.false_eq_true,false_iff,Bool.true_eq,true_and,and_true,iff_true,true_iff]<;>omega)
 rw[if_neg k3]
 by_cases k4:f.kind=4
 ·rw[if_pos k4]
  refine yW ?_;intros
  all_goals
   refine zW .nil zG yY (zN ?_)
   first
    |(simp[*];done)
    |(rw[Bool.eq_iff_iff];simp only[Bool.and_eq_true,decide_eq_true_eq,beq_iff_eq,Bool.false_eq_true,false_iff,Bool.true_eq,true_and,and_true,iff_true,true_iff]<;>omega)
 rw[if_neg k4]
 refine uZ ?_;and_intros<;>first|exact nl|intros
 all_goals
  refine zW .nil zG yY (zN ?_)
  first
   |(simp[*];done)
   |(rw[Bool.eq_iff_iff];simp only[Bool.and_eq_true,decide_eq_true_eq,beq_iff_eq,Bool.false_eq_true,false_iff,Bool.true_eq,true_and,and_true,iff_true,true_iff]<;>omega)
end Go.Proofs.YtaoaafdommlhcaaGreat
