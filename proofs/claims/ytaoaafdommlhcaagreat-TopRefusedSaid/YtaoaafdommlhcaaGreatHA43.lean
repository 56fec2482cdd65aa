/- Parts of the proof that belong together: Ig. -/
import Derived.Test.YtaoaafdommlhcaaGreatHA07
import Derived.Test.YtaoaafdommlhcaaGreatHA37
set_option maxRecDepth 10000
set_option maxHeartbeats 32000000
set_option linter.unusedSimpArgs false
set_option linter.unusedVariables false
set_option autoImplicit false
open Go.Proofs.Tryz
namespace Go.Proofs.YtaoaafdommlhcaaGreat
open Go.Shelf Go.Sort Go.RowKit Go.WideMaps
abbrev z0T:List AV:=[cA (.string {data:=#[]}),cA (.int .i64 0),cA (.int .i64 0),cA (.int .i64 0),cA (.slice none 0 0),cA (.slice none 0 0),cA (.slice none 0 0),cA (.slice none 0 0),cA (.slice none 0 0),cA (.slice none 0 0),cA (.slice none 0 0),cA (.map none),cA (.slice none 0 0),cA (.slice none 0 0)]
abbrev tblU(d:Dis)(l:List Ord')(bm:Nat)(V1 V2:Value):List AV:=[.str d.nm,.int .i64 d.hours,.int .i64 d.cap,.int .i64 d.start,rchs d.R,frms d.F,crps d.C,rgts d.G,dtys d.D,wlls d.W,ords l,.mp bm,.slv V1,.slv V2]
theorem ex_joinB{P:Program}{ro:Option Nat}{x y:Code}{Q:Exit→St→Prop}{s:St}{id:Nat}{α:Type}(f:α→St)(h1:EX P ro x (blockA id (thenA (fun s=> ∃a σ',s.σ.Perm σ'∧St.le ⟨s.env,σ',s.marks,s.n⟩ (f a)) Q)) s)(h2: ∀a,EX P ro y Q (f a)):EX P ro x (blockA id (thenA (EX P ro y Q) Q)) s:=
 have key: ∀s:St,(∃a σ',s.σ.Perm σ'∧St.le ⟨s.env,σ',s.marks,s.n⟩ (f a))→EX P ro y Q s:=fun s ⟨a,σ',hp,ha⟩=>pD hp (yS ha (h2 a))
 ex_mono h1 fun e s h=>by
  cases e with
  |normal=>exact key s h
  |exit k=>
   simp only[blockA]at h ⊢
   split at h
   ·rename_i hk;rw[if_pos hk];exact key s h
   ·rename_i hk;rw[if_neg hk];exact h
  |goto l=>exact h
  |ret=>exact h
  |panic ch=>exact h
  |outgrown=>exact h
theorem perm_two{e1 e2:Ent}(A B C D:List Ent):(e1::e2::(A++(B++(C++D)))).Perm (A++(B++(e1::(C++(e2::D))))):=by
 have h1:(e2::(A++(B++(C++D)))).Perm (A++(B++(C++(e2::D)))):=by
  have:=(List.perm_middle (a:=e2) (l₁:=A++(B++C)) (l₂:=D)).symm
  simpa only [List.append_assoc]using this
 have h2:(e1::(A++(B++(C++(e2::D))))).Perm (A++(B++(e1::(C++(e2::D))))):=by
  have:=(List.perm_middle (a:=e1) (l₁:=A++B) (l₂:=C++e2::D)).symm
  simpa only [List.append_assoc]using this
 exact(h1.cons e1).trans h2
theorem rowsE_snoc(M:Mtx)(q:Value×List Int)(σ:List Ent):xY (M++[q])++σ=xY M++(.row q.1 3 1 (q.2.map intC)::σ):=by simp[xY]
theorem colsV_snoc(M:Mtx)(q:Value×List Int):qV (M++[q])=qV M++[[.slv q.1]]:=by simp[qV]
abbrev zer(n:Nat):List Int:=List.replicate n 0
theorem read_bad(d:Dis)(hd:yZ d=0)(l:List Ord')(h:readE d l≠0)(σ:List Ent):
  SCall prog 82 [disV d,ords l] σ (Is (.tup [.agg z0T,.int .i64 (readE d l)]) σ):=by
 refine zZ func82 rfl (by simp) ?_
 have cc:=fun σ=>checkO_c d l σ
 have hH:=xF (zP hd).2
 have hR:=(yC (zP hd).1).1
 have hH1:1≤d.hours:=by
  have hv:=(zP hd).2
  unfold yD tY at hv
  simp[vS]at hv
  omega
 have hm1:0≤(d.R.length:Int)*d.hours:=Int.mul_nonneg (by omega) (by omega)
 have hm2:(d.R.length:Int)*d.hours≤64*4096:=Int.mul_le_mul (by omega) hH (by omega) (by omega)
 unfold readE at h ⊢
 by_cases h1:1024<(d.R.length:Int)*d.hours
 ·rw[if_pos (.inl h1)]
  clear cc
  refine uZ ?_;and_intros<;>first|exact nl|intros
  all_goals
   refine zS (σ3:=σ) .nil zG zJ ?_
   exact zY .mk
 by_cases h2:(4096:Int)<l.length
 ·rw[if_pos (.inr h2)]
  clear cc
  refine uZ ?_;and_intros<;>first|exact nl|intros
  all_goals
   refine zS (σ3:=σ) .nil zG zJ ?_
   exact zY .mk
 rw[if_neg (by omega)]at h ⊢
 have h3:tA d l≠0:=fun e=>by rw[if_neg (by omega)]at h;exact h rfl
 rw[if_pos h3]
 clear h hd
 generalize tA d l=e at cc h3
 repeat' first|(apply yQ;exact zD;rfl;rfl;refine zL ?_;exact cc _)|(refine xV ?_;and_intros<;>first|exact nl|intros)|fail
 all_goals
  refine zS (σ3:=σ) .nil zG zJ ?_
  exact zY .mk
theorem perm_shut1(a b c v w:Ent)(A τ:List Ent):(a::b::c::v::w::(A++τ)).Perm (v::(A++(a::b::c::w::τ))):=by
 have h1:(a::b::c::v::w::(A++τ)).Perm (v::([a,b,c]++(w::(A++τ)))):=List.perm_middle (a:=v) (l₁:=[a,b,c]) (l₂:=w::(A++τ))
 refine h1.trans (.cons _ ?_)
 have h2:([a,b,c]++(w::(A++τ)))=[a,b,c,w]++(A++τ):=rfl
 rw[h2]
 exact List.perm_append_comm_assoc [a,b,c,w] A τ
theorem perm_shut2(v a b c w:Ent)(A τ:List Ent):(v::a::b::c::w::(A++τ)).Perm (w::(A++(v::a::b::c::τ))):=by
 have h1:(v::a::b::c::w::(A++τ)).Perm (w::([v,a,b,c]++(A++τ))):=List.perm_middle (a:=w) (l₁:=[v,a,b,c]) (l₂:=A++τ)
 exact h1.trans (.cons _ (List.perm_append_comm_assoc [v,a,b,c] A τ))
theorem sums_tab{R N:Nat}{f:BkF}{M:Mtx}(hl:M.length=R)(hR:R≤64)(hN:N≤4096)(h: ∀r,r<R→ ∃v L,M[r]?=some (v,L)∧L.length=N+1∧ ∀k,k≤N→L[k]?=some (vD f r k))(hf: ∀q,0≤zV f q∧zV f q≤1073741824):TabOk R (N+1) (M.map (·.2)) (fun r h=>vD f r h):=by
 refine⟨by rw[List.length_map];omega,fun r hr=>?_,fun r k hr hk=>?_⟩
 ·obtain⟨v,L,h1,h2,h3⟩:=h r hr
  exact⟨L,by rw[List.getElem?_map,h1];rfl,by omega,fun k hk=>h3 k (by omega)⟩
 ·have h1:=sumG_le hf r k
  omega
theorem draw_tab{R N:Nat}{g:Nat→Nat→Int}{M:Mtx}(h:DrawOk R N g M)(hR:R≤64)(hN:N≤4096)(hg: ∀r k,0≤g r k∧g r k≤4398046511104):TabOk R N (M.map (·.2)) g:=by
 have hl:=h.len
 refine⟨by rw[List.length_map];omega,fun r hr=>?_,fun r k hr hk=>?_⟩
 ·obtain⟨v,L,h1,h2,h3⟩:=h.row r hr
  exact⟨L,by rw[List.getElem?_map,h1];rfl,by omega,h3⟩
 ·have h1:=hg r k
  omega
theorem cols_mats(M:Mtx):AV.dl 1 (colsI M)=mats (M.map (·.2)):=by
 unfold mats colsI
 rw[List.map_map]
 rfl
theorem read_ok(d:Dis)(hd:yZ d=0)(l:List Ord')(h:readE d l=0)(σ:List Ent):
  SCall prog 82 [disV d,ords l] σ (fun r τ=> ∃bm n S D,TabOk d.R.length (d.hours.toNat+1) S (fun r h=>vD (xJ l) r h)∧TabOk d.R.length d.hours.toNat D (vA d l)∧r=.tup [tblV d l bm S D,.int .i64 0]∧τ=.kmap bm [false,false,true] (xJ l) n::σ):=by
 refine zZ func82 rfl (by simp) ?_
 have cc:=fun σ=>checkO_c d l σ
 have hH:=xF (zP hd).2
 have hR:=(yC (zP hd).1).1
 have hH1:1≤d.hours:=by
  have hv:=(zP hd).2
  unfold yD tY at hv
  simp[vS]at hv
  omega
 have hm1:0≤(d.R.length:Int)*d.hours:=Int.mul_nonneg (by omega) (by omega)
 have hm2:(d.R.length:Int)*d.hours≤64*4096:=Int.mul_le_mul (by omega) hH (by omega) (by omega)
 unfold readE at h
 have h1:¬ (1024<(d.R.length:Int)*d.hours∨(4096:Int)<l.length):=fun e=>by rw[if_pos e]at h;cases h
 rw[if_neg h1]at h
 have h3:tA d l=0:=by
  by_cases e:tA d l≠0
  ·rw[if_pos e]at h;cases h
  ·omega
 rw[h3]at cc
 obtain⟨_,hl,hob⟩:=checkO_dis h3
 clear h
 obtain⟨N,hN⟩: ∃N:Nat,d.hours=N:=⟨d.hours.toNat,by omega⟩
 refine xX 45 1 ?_
 refine xX 45 1 ?_
 repeat' first|(refine xD (.makeMap _ _) ?_;refine tD [false,false,true] rfl rfl rfl (vE [false,false,true]) ?_;intro bm)|(show EX _ _ (Code.seq (Code.region 6 _ _) _) _ _;refine Stuck.out ?_)|(refine vW ?_;intros)|(apply yQ;exact zD;rfl;rfl;refine zL ?_;exact cc _)|(refine yV ?_ ?_<;>(intro z;cases z with|_ h)<;>intro hp)|exact nl|fail
 all_goals try refine Stuck.mk ?_
 rename Nat=>bm;revert bm;rename Nat=>b4;revert b4;rename Nat=>b2;revert b2
 intro b2 b4 bm
 clear cc h1 hm1 hm2
 refine yS (s':=⟨[(1,ords l),(2,.ptr b2 0),(4,.ptr b4 0),(5,.int .i64 0)],.kmap bm [false,false,true] (fun _=>none) 0::.cells b4 (tblU d l bm nilS nilS) 178::.cells b2 (disC d) 31::.row nilS 45 1 []::.row nilS 45 1 []::σ,[],f82.ntmps⟩) (St.le_of zC yY) ?_
 have hRl:(d.R.map rchC).length=d.R.length:=List.length_map _
 refine yW ?_;intros
 refine zU (fun(z:Nat×Value×Value×Mtx×Mtx)=>(⟨[(1,ords l),(2,.ptr b2 0),(4,.ptr b4 0),(5,.int .i64 0),(36,.int .i64 d.R.length),(37,.int .i64 (z.1:Nat))],.kmap bm [false,false,true] (fun _=>none) 0::.cells b4 (tblU d l bm z.2.1 z.2.2.1) 178::.cells b2 (disC d) 31::.row z.2.1 45 1 (qV z.2.2.2.1)::.row z.2.2.1 45 1 (qV z.2.2.2.2)::(xY z.2.2.2.1++(xY z.2.2.2.2++σ)),[],f82.ntmps⟩:St)) (fun z=>z.1≤d.R.length∧(z.2.2.2.1.length=z.1∧ ∀q∈z.2.2.2.1,q.2=zer (N+1))∧(z.2.2.2.2.length=z.1∧ ∀q∈z.2.2.2.2,q.2=zer N)) (fun z=>d.R.length-z.1) (0,nilS,nilS,[],[]) (⟨Nat.zero_le _,⟨rfl,fun q h=>(nomatch h)⟩,rfl,fun q h=>(nomatch h)⟩) (St.le_of zC yY) ?_
 intro z hI
 obtain⟨k,V1,V2,M1,M2⟩:=z
 obtain⟨hI1,⟨hI2,hI3⟩,hI4,hI5⟩:=hI
 dsimp only at hI1 hI2 hI3 hI4 hI5 ⊢
 have hc1:=cols_len M1
 have hc2:=cols_len M2
 by_cases hk:k<d.R.length
 ·obtain⟨ρ,hρ⟩: ∃ρ,ρ=xY M1++(xY M2++σ):=⟨_,rfl⟩
  rw[←hρ]
  have hN1:d.hours+1=((N+1:Nat):Int):=by omega
  refine yW ?_;intros
  refine ex_joinB (fun(p:Value×Value×Value×Value)=>⟨[(1,ords l),(2,.ptr b2 0),(4,.ptr b4 0),(5,.int .i64 0),(36,.int .i64 d.R.length),(37,.int .i64 (k:Nat))],.row p.1 3 1 (List.replicate (N+1) [.int .i64 0])::.row p.2.1 3 1 (List.replicate N [.int .i64 0])::.kmap bm [false,false,true] (fun _=>none) 0::.cells b4 (tblU d l bm p.2.2.1 p.2.2.2) 178::.cells b2 (disC d) 31::.row p.2.2.1 45 1 (qV M1++[[.slv p.1]])::.row p.2.2.2 45 1 (qV M2++[[.slv p.2.1]])::ρ,[],f82.ntmps⟩) ?_ ?_
  ·refine yW ?_;intros
   refine yB (fun e=>e=.cells b2 (disC d) 31∨e=.cells b4 (tblU d l bm V1 V2) 178) [5,6,7,12,13,14] 16 rfl (by kernel_rfl) rfl ?_
   simp only[List.take_succ_cons,List.take_zero,List.drop_succ_cons,List.drop_zero]
   repeat' first|(refine zgd ?_;(refine drs_row rfl rfl (by apply g_makeSlice;rfl;rfl;rfl;rfl;(first|rfl|assumption);(first|rfl|assumption);(refine app_ok ?_ (by kernel_rfl);(first|omega|exact Nat.le_of_ble_eq_true rfl))) ?_;intro _))|(refine yX ?_;intros)|refine vX rfl rfl rfl ?_ ?_|fail
   ·rename Value=>U2;revert U2;rename Value=>x2;revert x2;rename Value=>w2;revert w2;rename Value=>U1;revert U1;rename Value=>x1;revert x1;rename Value=>w1;revert w1
    intro w1 x1 U1 w2 x2 U2
    refine⟨(w1,w2,U1,U2),_,.trans (.cons _ (.swap _ _ _)) (.trans (.swap _ _ _) (.cons _ (.cons _ (.swap _ _ _)))),?_⟩
    dsimp only
    exact(St.le_of zC zJ)
   ·rename Value=>U2;revert U2;rename Value=>x2;revert x2;rename Value=>U1;revert U1;rename Value=>w2;revert w2;rename Value=>x1;revert x1;rename Value=>w1;revert w1
    intro w1 x1 w2 U1 x2 U2
    refine⟨(w1,w2,U1,U2),_,.trans (.cons _ (.swap _ _ _)) (.trans (.swap _ _ _) (.cons _ (.cons _ (.swap _ _ _)))),?_⟩
    dsimp only
    exact(St.le_of zC zJ)
   ·rename Value=>U2;revert U2;rename Value=>U1;revert U1;rename Value=>x2;revert x2;rename Value=>w2;revert w2;rename Value=>x1;revert x1;rename Value=>w1;revert w1
    intro w1 x1 w2 x2 U1 U2
    refine⟨(w1,w2,U1,U2),_,.trans (.cons _ (.swap _ _ _)) (.trans (.swap _ _ _) (.cons _ (.cons _ (.swap _ _ _)))),?_⟩
    dsimp only
    exact(St.le_of zC zJ)
   ·rename Value=>U2;revert U2;rename Value=>x2;revert x2;rename Value=>U1;revert U1;rename Value=>x1;revert x1;rename Value=>w2;revert w2;rename Value=>w1;revert w1
    intro w1 w2 x1 U1 x2 U2
    refine⟨(w1,w2,U1,U2),_,.trans (.swap _ _ _) (.cons _ (.cons _ (.swap _ _ _))),?_⟩
    dsimp only
    exact(St.le_of zC zJ)
   ·rename Value=>U2;revert U2;rename Value=>U1;revert U1;rename Value=>x2;revert x2;rename Value=>x1;revert x1;rename Value=>w2;revert w2;rename Value=>w1;revert w1
    intro w1 w2 x1 x2 U1 U2
    refine⟨(w1,w2,U1,U2),_,.trans (.swap _ _ _) (.cons _ (.cons _ (.swap _ _ _))),?_⟩
    dsimp only
    exact(St.le_of zC zJ)
   ·rename Value=>U2;revert U2;rename Value=>U1;revert U1;rename Value=>x1;revert x1;rename Value=>x2;revert x2;rename Value=>w2;revert w2;rename Value=>w1;revert w1
    intro w1 w2 x2 x1 U1 U2
    refine⟨(w1,w2,U1,U2),_,.cons _ (.cons _ (.swap _ _ _)),?_⟩
    dsimp only
    exact(St.le_of zC zJ)
   ·rename Value=>U2;revert U2;rename Value=>x2;revert x2;rename Value=>U1;revert U1;rename Value=>x1;revert x1;rename Value=>w1;revert w1;rename Value=>w2;revert w2
    intro w2 w1 x1 U1 x2 U2
    refine⟨(w1,w2,U1,U2),_,.swap _ _ _,?_⟩
    dsimp only
    exact(St.le_of zC zJ)
   ·rename Value=>U2;revert U2;rename Value=>U1;revert U1;rename Value=>x2;revert x2;rename Value=>x1;revert x1;rename Value=>w1;revert w1;rename Value=>w2;revert w2
    intro w2 w1 x1 x2 U1 U2
    refine⟨(w1,w2,U1,U2),_,.swap _ _ _,?_⟩
    dsimp only
    exact(St.le_of zC zJ)
   ·rename Value=>U2;revert U2;rename Value=>U1;revert U1;rename Value=>x1;revert x1;rename Value=>x2;revert x2;rename Value=>w1;revert w1;rename Value=>w2;revert w2
    intro w2 w1 x2 x1 U1 U2
    refine⟨(w1,w2,U1,U2),_,.refl _,?_⟩
    dsimp only
    exact(St.le_of zC zJ)
   ·rename Value=>U2;revert U2;rename Value=>U1;revert U1;rename Value=>x1;revert x1;rename Value=>w1;revert w1;rename Value=>x2;revert x2;rename Value=>w2;revert w2
    intro w2 x2 w1 x1 U1 U2
    refine⟨(w1,w2,U1,U2),_,.cons _ (.swap _ _ _),?_⟩
    dsimp only
    exact(St.le_of zC zJ)
  rintro⟨w1,w2,U1,U2⟩
  dsimp only
  subst hρ
  have hz: ∀n:Nat,List.replicate n [AV.int .i64 0]=(zer n).map intC:=fun n=>by simp[zer]
  rw[hz,hz]
  refine pD (perm_two [_,_,_,_,_] (xY M1) (xY M2) σ) ?_
  simp only[List.cons_append,List.nil_append]
  rw[←rowsE_snoc M2 (w2,zer N) σ,←rowsE_snoc M1 (w1,zer (N+1)),←colsV_snoc M1 (w1,zer (N+1)),←colsV_snoc M2 (w2,zer N)]
  refine yW ?_;intros
  exact⟨(k+1,U1,U2,M1++[(w1,zer (N+1))],M2++[(w2,zer N)]),⟨hk,⟨by simp[hI2],fun q hq=>by rcases List.mem_append.1 hq with h|h;exact hI3 q h;rw[List.mem_singleton]at h;subst h;rfl⟩,by simp[hI4],fun q hq=>by rcases List.mem_append.1 hq with h|h;exact hI5 q h;rw[List.mem_singleton]at h;subst h;rfl⟩,by dsimp only;omega,(St.le_of zC zJ)⟩
 ·obtain rfl:k=d.R.length:=by omega
  have hs0:=sums_zero hI2 hI3
  have hd0:=draw_zero hI4 hI5
  clear hI1 hI2 hI3 hI4 hI5 hk
  obtain⟨c1,hc1e⟩: ∃c,c=qV M1:=⟨_,rfl⟩
  obtain⟨c2,hc2e⟩: ∃c,c=qV M2:=⟨_,rfl⟩
  rw[←hc1e,←hc2e]
  have hlm:(l.map ordC).length=l.length:=List.length_map _
  have hvv:=(zP hd).2
  have hob2:=ords_each hob
  refine yW ?_;intros
  refine zU (fun(z:Nat×Nat×Mtx×Mtx)=>(⟨[(1,ords l),(2,.ptr b2 0),(4,.ptr b4 0),(5,.int .i64 0),(57,ords l),(58,.int .i64 l.length),(59,.int .i64 (z.1:Nat))],.kmap bm [false,false,true] (xJ (l.take z.1)) z.2.1::.cells b4 (tblU d l bm V1 V2) 178::.cells b2 (disC d) 31::.row V1 45 1 c1::.row V2 45 1 c2::(xY z.2.2.1++(xY z.2.2.2++σ)),[],f82.ntmps⟩:St)) (fun z=>z.1≤l.length∧(SumsOk d.R.length N (xJ (l.take z.1)) z.2.2.1∧qV z.2.2.1=c1)∧DrawOk d.R.length N (vA d (l.take z.1)) z.2.2.2∧qV z.2.2.2=c2) (fun z=>l.length-z.1) (0,0,M1,M2) (⟨Nat.zero_le _,⟨hs0,hc1e.symm⟩,hd0.same (fun r k _ _=>rfl),hc2e.symm⟩) (St.le_of zC yY) ?_
  intro z hI
  clear hs0 hd0 hc1e hc2e hc1 hc2
  obtain⟨k,n,M1,M2⟩:=z
  obtain⟨hI1,⟨hI2,hI3⟩,hI4,hI5⟩:=hI
  dsimp only at hI1 hI2 hI3 hI4 hI5 ⊢
  by_cases hk:k<l.length
  ·obtain⟨o,ho⟩:=zH hk
   have go:=ord_get ho
   have hb1:=hob2 o (List.mem_of_getElem? ho)
   have hnl:xJ (l.take (k+1))=xN (xJ (l.take k)) (K3 o.hour o.index o.outlet) (.i o.litres):=by
    unfold xJ
    rw[List.take_add_one,ho]
    simp
   have hnd:=drawF_take (d:=d) ho
   repeat' first|(show EX _ _ (Code.seq (Code.region 12 _ _) _) _ _;refine Stuck.out ?_)|(refine vW ?_;intros)|(refine yV ?_ ?_<;>(intro z;cases z with|_ h)<;>intro hp)|exact nl|fail
   all_goals try refine Stuck.mk ?_
   refine ex_joinB (fun(p:{p:Mtx×Mtx//(SumsOk d.R.length N (xJ (l.take (k+1))) p.1∧qV p.1=c1)∧DrawOk d.R.length N (vA d (l.take (k+1))) p.2∧qV p.2=c2})=>⟨[(1,ords l),(2,.ptr b2 0),(4,.ptr b4 0),(5,.int .i64 0),(57,ords l),(58,.int .i64 l.length),(59,.int .i64 (k:Nat))],.kmap bm [false,false,true] (xJ (l.take (k+1))) (cntK (xJ (l.take k)) (K3 o.hour o.index o.outlet) n)::.cells b4 (tblU d l bm V1 V2) 178::.cells b2 (disC d) 31::.row V1 45 1 c1::.row V2 45 1 c2::(xY p.1.1++(xY p.1.2++σ)),[],f82.ntmps⟩) ?_ ?_
   ·rw[hnl]
    have hdb: ∀r t:Nat,0≤vA d (l.take k) r t∧vA d (l.take k) r t≤4398046511104:=fun r t=>by
     have:=drawF_le (d:=d) (l:=l.take k) (fun o ho=>by
      have h1:=hob2 o (List.mem_of_mem_take ho)
      unfold kL at h1
      simp only[Bool.and_eq_true,decide_eq_true_eq]at h1
      omega) r t
     rw[List.length_take]at this
     omega
    generalize xJ (l.take k)=f at hI2 hnl ⊢
    generalize vA d (l.take k)=g at hI4 hnd hdb
    obtain⟨oh,oi,ol,ob⟩:=o
    replace go:(l.map ordC)[k]?=some [.int .i64 oh,.int .i64 oi,.int .i64 ol,.bool ob]:=go
    unfold kL at hb1
    cases ob with
    |true=>
     simp only[Bool.and_eq_true,decide_eq_true_eq,if_true]at hb1
     dsimp only at hnd ⊢
     obtain⟨a,rfl⟩: ∃a:Nat,oi=a:=⟨oi.toNat,by omega⟩
     obtain⟨t,rfl⟩: ∃t:Nat,oh=t:=⟨oh.toNat,by omega⟩
     obtain⟨y,gy,ey,hy1,hy2⟩:=farm_at hvv (show a<d.F.length by omega)
     obtain⟨j,hj⟩: ∃j:Nat,y.reach=j:=⟨y.reach.toNat,by omega⟩
     obtain⟨v,L,q1,q2,q3⟩:=hI4.row j (by omega)
     have g1:=wU (q3 t (by omega))
     have gc:=cols_get q1
     rw[hI5]at gc
     have hcl:j<c2.length:=qZ gc
     have hLl:t<(L.map intC).length:=qZ g1
     have hat:atR d ⟨t,a,ol,true⟩=j:=by unfold atR;rw[if_pos rfl,ey,hj]
     have hg:=hdb j t
     have hnew:=hI4.add (g':=vA d (l.take (k+1))) q1 (t:=t) ol (fun r u=>by
      rw[hnd r u,hat]
      by_cases e:r=j∧u=t
      ·obtain⟨rfl,rfl⟩:=e
       rw[if_pos ⟨rfl,rfl⟩,if_pos ⟨rfl,rfl⟩]
      ·rw[if_neg (fun e2=>e ⟨by have:=e2.1;omega,by have:=e2.2;omega⟩),if_neg e]) (show t<N by omega) (show j<d.R.length by omega)
     generalize g j t=gv at g1 hg hnew
     have hF:=(yC (zP hd).1).2.1
     have hkf:KFit [false,false,true] (K3 (t:Int) (a:Int) true):=fitK3 (by omega) (by omega)
     refine pD (pull2 q1 [_,_,_,_,_] M1 σ) ?_
     simp only[List.cons_append,List.nil_append]
     generalize hρ:xY M1++mxR M2 j σ=ρ
     clear hdb hnd hI4 hob2 q3 hat
     repeat' first|(refine xD (.mapUpdate _ _ _ _) ?_;refine yE rfl rfl (wT (k:=K3 (t:Int) (a:Int) true) (v:=.i ol) rfl kF kE rfl rfl rfl hkf rfl rfl qJ rfl) ?_)|(refine yX ?_;intros)|refine zT ?_|(refine yV ?_ ?_<;>(intro z;cases z with|_ h)<;>intro hp)|exact nl|fail
     subst hρ
     have hp:=push2 q1 (L.set t (gv+ol)) [.kmap bm [false,false,true] (xN f (K3 (t:Int) (a:Int) true) (.i ol)) (cntK f (K3 (t:Int) (a:Int) true) n),.cells b4 (tblU d l bm V1 V2) 178,.cells b2 (disC d) 31,.row V1 45 1 c1,.row V2 45 1 c2] M1 σ
     rw[mxE,List.map_set]at hp
     exact⟨⟨(M1,M2.set j (v,L.set t (gv+ol))),⟨hI2.keep _ _ _,hI3⟩,hnew,by rw[cols_set q1];exact hI5⟩,_,.cons _ hp,(St.le_of zC zJ)⟩
    |false=>
     simp only[Bool.and_eq_true,decide_eq_true_eq,Bool.false_eq_true,if_false]at hb1
     dsimp only at hnd ⊢
     obtain⟨i,rfl⟩: ∃i:Nat,oi=i:=⟨oi.toNat,by omega⟩
     obtain⟨t,rfl⟩: ∃t:Nat,oh=t:=⟨oh.toNat,by omega⟩
     obtain⟨x,hx⟩:=zH (show i<d.R.length by omega)
     have gx:(d.R.map rchC)[i]?=some (rchC x):=by rw[List.getElem?_map,hx];rfl
     have hil:=qZ hx
     have hup:=(wP hvv).lt hx
     have hge:=(wP hvv).ge hx
     have hat:atR d ⟨t,i,ol,false⟩=x.up:=by unfold atR;simp only[Bool.false_eq_true,if_false,Int.toNat_natCast,hx]
     obtain⟨v1,L1,s1,s2,s3,s4⟩:=hI2.row i hil
     have gc1:=cols_get s1
     rw[hI3]at gc1
     have hcl1:i<c1.length:=qZ gc1
     have hLl1:t+1<(L1.map intC).length:=by rw[List.length_map];omega
     have hkf:KFit [false,false,true] (K3 (t:Int) (i:Int) false):=fitK3 (by omega) (by omega)
     have hsn:=hI2.set s1 (show t<N by omega) ol
     by_cases hu0:x.up<0
     ·have hsame:=hI4.same (g':=vA d (l.take (k+1))) (fun r u _ _=>by
       rw[hnd r u,hat,if_neg (fun e=>by have:=e.1;omega),Int.add_zero])
      refine pD (pull1 s1 [_,_,_,_,_] (xY M2++σ)) ?_
      simp only[List.cons_append,List.nil_append]
      generalize hρ:mxR M1 i (xY M2++σ)=ρ
      clear hdb hnd hI4 hob2 s4 hat hx
      repeat' first|(refine xD (.mapUpdate _ _ _ _) ?_;refine yE rfl rfl (wT (k:=K3 (t:Int) (i:Int) false) (v:=.i ol) rfl kF kE rfl rfl rfl hkf rfl rfl qJ rfl) ?_)|(refine yX ?_;intros)|refine zT ?_|(refine yV ?_ ?_<;>(intro z;cases z with|_ h)<;>intro hp)|exact nl|fail
      subst hρ
      have hp:=push1 s1 (L1.set (t+1) ol) [.kmap bm [false,false,true] (xN f (K3 (t:Int) (i:Int) false) (.i ol)) (cntK f (K3 (t:Int) (i:Int) false) n),.cells b4 (tblU d l bm V1 V2) 178,.cells b2 (disC d) 31,.row V1 45 1 c1,.row V2 45 1 c2] (xY M2++σ)
      rw[mxE,List.map_set]at hp
      exact⟨⟨(M1.set i (v1,L1.set (t+1) ol),M2),⟨hsn,by rw[cols_set s1];exact hI3⟩,hsame,hI5⟩,_,.cons _ hp,(St.le_of zC zJ)⟩
     ·obtain⟨j,hj⟩: ∃j:Nat,x.up=j:=⟨x.up.toNat,by omega⟩
      obtain⟨v,L,q1,q2,q3⟩:=hI4.row j (by omega)
      have g1:=wU (q3 t (by omega))
      have gc:=cols_get q1
      rw[hI5]at gc
      have hcl:j<c2.length:=qZ gc
      have hLl:t<(L.map intC).length:=qZ g1
      have hg:=hdb j t
      have hnew:=hI4.add (g':=vA d (l.take (k+1))) q1 (t:=t) ol (fun r u=>by
       rw[hnd r u,hat,hj]
       by_cases e:r=j∧u=t
       ·obtain⟨rfl,rfl⟩:=e
        rw[if_pos ⟨rfl,rfl⟩,if_pos ⟨rfl,rfl⟩]
       ·rw[if_neg (fun e2=>e ⟨by have:=e2.1;omega,by have:=e2.2;omega⟩),if_neg e]) (show t<N by omega) (show j<d.R.length by omega)
      generalize g j t=gv at g1 hg hnew
      refine pD (pull12 s1 q1 [_,_,_,_,_] σ) ?_
      simp only[List.cons_append,List.nil_append]
      generalize hρ:mxR M1 i (mxR M2 j σ)=ρ
      clear hdb hnd hI4 hob2 q3 s4 hat hx
      repeat' first|(refine xD (.mapUpdate _ _ _ _) ?_;refine yE rfl rfl (wT (k:=K3 (t:Int) (i:Int) false) (v:=.i ol) rfl kF kE rfl rfl rfl hkf rfl rfl qJ rfl) ?_)|(refine yX ?_;intros)|refine zT ?_|(refine yV ?_ ?_<;>(intro z;cases z with|_ h)<;>intro hp)|exact nl|fail
      subst hρ
      have hp:=push12 s1 q1 (L1.set (t+1) ol) (L.set t (gv+ol)) [.kmap bm [false,false,true] (xN f (K3 (t:Int) (i:Int) false) (.i ol)) (cntK f (K3 (t:Int) (i:Int) false) n),.cells b4 (tblU d l bm V1 V2) 178,.cells b2 (disC d) 31,.row V1 45 1 c1,.row V2 45 1 c2] σ
      rw[mxE,mxE,List.map_set,List.map_set]at hp
      exact⟨⟨(M1.set i (v1,L1.set (t+1) ol),M2.set j (v,L.set t (gv+ol))),⟨hsn,by rw[cols_set s1];exact hI3⟩,hnew,by rw[cols_set q1];exact hI5⟩,_,.cons _ hp,(St.le_of zC zJ)⟩
   ·rintro⟨⟨M1',M2'⟩,⟨h1,h2⟩,h3,h4⟩
    dsimp only at h1 h2 h3 h4 ⊢
    clear hob2 hI2 hI4 hnd go
    refine uZ ?_;and_intros<;>first|exact nl|intros
    exact⟨(k+1,_,M1',M2'),⟨hk,⟨h1,h2⟩,h3,h4⟩,by dsimp only;omega,(St.le_of zC zJ)⟩
  ·obtain rfl:k=l.length:=by omega
   rw[List.take_length]at hI2 hI4 ⊢
   have hfb: ∀q,0≤zV (xJ l) q∧zV (xJ l) q≤1073741824:=litF_le (L:=l) (fun o ho=>by
    have h1:=hob2 o ho
    unfold kL at h1
    simp only[Bool.and_eq_true,decide_eq_true_eq]at h1
    omega) (fun q=>by simp[zV])
   have hsg:=fun r h=>sumG_le hfb r h
   generalize hfl:xJ l=f at hI2 hfb hsg ⊢
   have hc1:c1.length=d.R.length:=by rw[←hI3,cols_len,hI2.len]
   have hdb: ∀r t:Nat,0≤vA d l r t∧vA d l r t≤4398046511104:=fun r t=>by
    have:=drawF_le (d:=d) (l:=l) (fun o ho=>by
     have h1:=hob2 o ho
     unfold kL at h1
     simp only[Bool.and_eq_true,decide_eq_true_eq]at h1
     omega) r t
    omega
   have hend1:=fun M hl h=>sums_tab (M:=M) hl hR (show N≤4096 by omega) h hfb
   have hend2:=draw_tab hI4 hR (by omega) hdb
   clear hdb
   generalize hgl:vA d l=g at hI4 hend2 ⊢
   clear hob2 hk hI1
   refine uZ ?_;and_intros<;>first|exact nl|intros
   refine zU (fun(z:Nat×Mtx)=>(⟨[(2,.ptr b2 0),(4,.ptr b4 0),(5,.int .i64 0),(119,.slv V1),(120,.int .i64 c1.length),(121,.int .i64 (z.1:Nat))],.kmap bm [false,false,true] f n::.cells b4 (tblU d l bm V1 V2) 178::.cells b2 (disC d) 31::.row V1 45 1 c1::.row V2 45 1 c2::(xY z.2++(xY M2++σ)),[],f82.ntmps⟩:St)) (fun z=>z.1≤d.R.length∧qV z.2=c1∧(∀r,r<z.1→ ∃v L,z.2[r]?=some (v,L)∧L.length=N+1∧ ∀h,h≤N→L[h]?=some (vD f r h))∧ ∀r,z.1≤r→z.2[r]?=M1[r]?) (fun z=>d.R.length-z.1) (0,M1) (⟨Nat.zero_le _,hI3,fun r h=>absurd h (Nat.not_lt_zero _),fun _ _=>rfl⟩) (St.le_of zC yY) ?_
   intro z hI
   obtain⟨r,M⟩:=z
   obtain⟨hJ1,hJ2,hJ3,hJ4⟩:=hI
   dsimp only at hJ1 hJ2 hJ3 hJ4 ⊢
   by_cases hr:r<d.R.length
   ·obtain⟨v,L0,s1,s2,s3,s4⟩:=hI2.row r hr
    have hM:=hJ4 r (Nat.le_refl _)
    rw[s1]at hM
    have gc1:=cols_get hM
    rw[hJ2]at gc1
    have hcl1:r<c1.length:=qZ gc1
    clear hc1 hI4
    repeat' first|(show EX _ _ (Code.seq (Code.region 24 _ _) _) _ _;refine Stuck.out ?_)|(refine vW ?_;intros)|(refine yV ?_ ?_<;>(intro z;cases z with|_ h)<;>intro hp)|exact nl|fail
    all_goals try refine Stuck.mk ?_
    refine ex_joinB (fun(p:{K:List Int//K.length=N+1∧ ∀h,h≤N→K[h]?=some (vD f r h)})=>⟨[(2,.ptr b2 0),(4,.ptr b4 0),(5,.int .i64 0),(119,.slv V1),(120,.int .i64 c1.length),(121,.int .i64 (r:Nat))],.kmap bm [false,false,true] f n::.cells b4 (tblU d l bm V1 V2) 178::.cells b2 (disC d) 31::.row V1 45 1 c1::.row V2 45 1 c2::(xY (M.set r (v,p.1))++(xY M2++σ)),[],f82.ntmps⟩) ?_ ?_
    ·refine pD (pull1 hM [_,_,_,_,_] (xY M2++σ)) ?_
     simp only[List.cons_append,List.nil_append]
     generalize hρ:mxR M r (xY M2++σ)=ρ
     clear hJ3 hJ4 hI2
     refine yW ?_;intros
     refine zU (fun(z:Nat×List Int)=>(⟨[(2,.ptr b2 0),(4,.ptr b4 0),(5,.int .i64 0),(119,.slv V1),(120,.int .i64 c1.length),(121,.int .i64 (r:Nat)),(10,.slv v),(126,.int .i64 d.hours),(127,.int .i64 (z.1:Nat))],.row v 3 1 (z.2.map intC)::.kmap bm [false,false,true] f n::.cells b4 (tblU d l bm V1 V2) 178::.cells b2 (disC d) 31::.row V1 45 1 c1::.row V2 45 1 c2::ρ,[],f82.ntmps⟩:St)) (fun z=>z.1≤N∧z.2.length=N+1∧(∀h,h≤z.1→z.2[h]?=some (vD f r h))∧ ∀h,z.1≤h→h<N→z.2[h+1]?=some (zV f (K3 h r false))) (fun z=>N-z.1) (0,L0) (⟨Nat.zero_le _,s2,(fun(h:Nat) (hh:h≤0)=>(by have e:h=0:=(by omega);subst e;exact s3:L0[h]?=some (vD f r h))),fun h _ hh=>s4 h hh⟩) (St.le_of zC yY) ?_
     intro z hI
     obtain⟨h_,K⟩:=z
     obtain⟨q1,q2,q3,q4⟩:=hI
     dsimp only at q1 q2 q3 q4 ⊢
     have hKl:(K.map intC).length=N+1:=by rw[List.length_map];exact q2
     by_cases hh:h_<N
     ·have g1:=wU (q3 h_ (Nat.le_refl _))
      have g2:=wU (q4 h_ (Nat.le_refl _) hh)
      have e1:=hsg r h_
      have e2:=hfb (K3 h_ r false)
      have hlh:(h_:Int)<d.hours:=by omega
      have hk1:h_+1<(K.map intC).length:=by omega
      have hk0:h_<(K.map intC).length:=by omega
      have en:vD f r (h_+1)=vD f r h_+zV f (K3 h_ r false):=rfl
      have hnK:(∀h,h≤h_+1→(K.set (h_+1) (zV f (K3 h_ r false)+vD f r h_))[h]?=some (vD f r h)):=fun h hle=>by
       rw[List.getElem?_set]
       by_cases e:h_+1=h
       ·subst e;rw[if_pos rfl,if_pos (by omega),en,Int.add_comm]
       ·rw[if_neg e];exact q3 h (by omega)
      have hnK2: ∀h,h_+1≤h→h<N→(K.set (h_+1) (zV f (K3 h_ r false)+vD f r h_))[h+1]?=some (zV f (K3 h r false)):=fun h h1 h2=>by
       rw[List.getElem?_set,if_neg (by omega)];exact q4 h (by omega) h2
      clear q3 q4 en hsg hfb
      generalize vD f r h_=x1 at g1 e1 hnK hnK2
      generalize zV f (K3 h_ r false)=x2 at g2 e2 hnK hnK2
      repeat' first|(refine xV ?_;and_intros<;>first|exact nl|intros)|refine zT ?_|fail
      have hset:(K.set (h_+1) (x2+x1)).map intC=(K.map intC).set (h_+1) [.int .i64 (x2+x1)]:=by rw[List.map_set]
      exact⟨(h_+1,K.set (h_+1) (x2+x1)),⟨hh,by rw[List.length_set];exact q2,hnK,hnK2⟩,by dsimp only;omega,by dsimp only;rw[hset];exact(St.le_of zC zJ)⟩
     ·obtain rfl:h_=N:=by omega
      subst hρ
      clear hsg hfb
      have hge9:¬ (h_:Int)<d.hours:=by omega
      have hpp:=push1 hM K [.kmap bm [false,false,true] f n,.cells b4 (tblU d l bm V1 V2) 178,.cells b2 (disC d) 31,.row V1 45 1 c1,.row V2 45 1 c2] (xY M2++σ)
      refine uZ ?_;and_intros<;>first|exact nl|intros
      exact⟨⟨K,q2,q3⟩,_,hpp,(St.le_of zC zJ)⟩
    ·rintro⟨K,k1,k2⟩
     dsimp only
     clear hI2
     refine uZ ?_;and_intros<;>first|exact nl|intros
     exact⟨(r+1,M.set r (v,K)),⟨hr,by rw[cols_set hM];exact hJ2,fun q hq=>by
      by_cases e:r=q
      ·subst e;exact⟨v,K,by rw[List.getElem?_set_self (qZ hM)],k1,k2⟩
      ·obtain⟨w,L,h1,h2,h3⟩:=hJ3 q (by omega)
       exact⟨w,L,by rw[List.getElem?_set,if_neg e];exact h1,h2,h3⟩,fun q hq=>by
      rw[List.getElem?_set,if_neg (by omega)];exact hJ4 q (by omega)⟩,by dsimp only;omega,(St.le_of zC zJ)⟩
   ·obtain rfl:r=d.R.length:=by omega
    have hMl:M.length=d.R.length:=by rw[←cols_len,hJ2];exact hc1
    clear hc1 hJ4 hsg hfb hI2 hI3
    subst hJ2 hI5
    have hcl9:(qV M).length=d.R.length:=by rw[cols_len];exact hMl
    have e1:=hend1 M hMl hJ3
    rw[show d.hours.toNat=N by omega]
    clear hend1
    refine pD (perm_shut1 _ _ _ _ _ (xY M) (xY M2++σ)) (ex_shutM M [] _ (fun y h=>(nomatch h)) ?_)
    rw[List.nil_append]
    refine pD (perm_shut2 _ _ _ _ _ (xY M2) σ) (ex_shutM M2 [] _ (fun y h=>(nomatch h)) ?_)
    rw[List.nil_append]
    generalize ha1:colsI M=a1
    generalize ha2:colsI M2=a2
    clear hJ3 hI4
    refine uZ ?_;and_intros<;>first|exact nl|intros
    all_goals
     refine zS (σ3:=.row V2 45 1 a2::.row V1 45 1 a1::.kmap bm [false,false,true] f n::σ) .nil zG zJ ?_
     refine xS .here (.tup (.agg (.same (.same (.same (.same (.same (.same (.same (.same (.same (.same (.same (.same (.same (.here .nil)))))))))))))) (.same .nil)) .nil) ?_
     refine xS .here (.tup (.agg (.same (.same (.same (.same (.same (.same (.same (.same (.same (.same (.same (.same (.here (.same .nil)))))))))))))) (.same .nil)) .nil) ?_
     subst ha1 ha2
     rw[cols_mats,cols_mats]
     exact zY ⟨_,_,_,_,e1,hend2,rfl,rfl⟩
end Go.Proofs.YtaoaafdommlhcaaGreat
