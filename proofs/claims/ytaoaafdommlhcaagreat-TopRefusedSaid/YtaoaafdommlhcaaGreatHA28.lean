/- Parts of the proof that belong together: Hd He Hf Ge. -/
import Derived.Test.YtaoaafdommlhcaaGreatHA07
import Derived.Test.YtaoaafdommlhcaaGreatHA27
set_option maxRecDepth 10000
set_option maxHeartbeats 64000000
set_option linter.unusedSimpArgs false
set_option linter.unusedVariables false
set_option autoImplicit false
open Go.Proofs.Tryz
namespace Go.Proofs.YtaoaafdommlhcaaGreat
open Go.Shelf Go.Sort Go.RowKit Go.WideMaps
theorem outlets_c(d:Dis)(hd:yZ d=0)(C:List Clm)(hC:ClmsOk d C)(σ:List Ent):SCall prog 115 [clms C] σ (Is (ords (tL d C)) σ):=by
 refine zZ func115 rfl (by simp) ?_
 have hF:=(yC (zP hd).1).2.1
 have hH:=xF (zP hd).2
 have hl:=hC.len
 have hcc: ∀c∈C,(∃a:Nat,c.farm=a∧a<d.F.length)∧(0≤c.hour∧c.hour<d.hours)∧1≤c.litres∧c.litres≤1073741824:=fun c hc=>⟨(hC.ok c hc).fm,(hC.ok c hc).hr,(hC.ok c hc).lt⟩
 have hsm: ∀k,∀q,0≤zV (qF (C.take k)) q∧zV (qF (C.take k)) q≤4398046511104:=fun k q=>by
  have:=sumC_le (B:=0) (C:=C.take k) (f:=fun _=>none) (fun c hc=>(hcc c (List.mem_of_mem_take hc)).2.2) (fun q=>by simp[zV]) q
  rw[List.length_take]at this
  unfold qF
  omega
 have hint: ∀k,IntV (qF (C.take k)):=fun k=>sumC_int (fun k x h=>by cases h)
 have hky: ∀k x,qF C k=some x→ ∃(a h:Nat) (n:Int),k=K2 a h∧a<d.F.length∧h<d.hours.toNat∧x=.i n:=fun k x hx=>by
  obtain⟨n,hn⟩:=(sumC_int (C:=C) (f:=fun _=>none) (fun k x h=>by cases h)) k x hx
  obtain⟨a,h,e,h1,h2⟩:=sumC_key (P:=fun k=> ∃a h:Nat,k=K2 a h∧a<d.F.length∧h<d.hours.toNat) (C:=C) (f:=fun _=>none) (fun c hc=>by
   obtain⟨⟨a,e1,e2⟩,⟨h1,h2⟩,_⟩:=hcc c hc
   exact⟨a,c.hour.toNat,by rw[e1,show ((c.hour.toNat:Nat):Int)=c.hour by omega],e2,by omega⟩) (fun k x h=>by cases h) k x hx
  exact⟨a,h,n,e,h1,h2,hn⟩
 clear hd hC
 refine xX 95 4 ?_
 repeat' first|(refine xD (.makeMap _ _) ?_;refine tD [false,false] rfl rfl rfl (vE [false,false]) ?_;intro bm)|(refine yX ?_;intros)|fail
 refine jY (t:=9) rfl (by first|exact(List.length_map _).symm|rfl) (fun hlen=>?_)
 refine zU (fun(z:Nat×Nat)=>(⟨[(2,.slv nilS),(3,.mp bm),(9,clms C),(10,.int .i64 C.length),(11,.int .i64 (z.1:Nat))],.kmap bm [false,false] (qF (C.take z.1)) z.2::.row nilS 95 4 []::σ,[],f115.ntmps⟩:St)) (fun z=>z.1≤C.length) (fun z=>C.length-z.1) (0,0) (Nat.zero_le _) (St.le_of zC yY) ?_
 intro z hI
 obtain⟨k,n⟩:=z
 dsimp only at hI ⊢
 by_cases hk:k<C.length
 ·obtain⟨c,hc⟩:=zH hk
  have gc:=pT hc
  obtain⟨⟨a,e1,e2⟩,⟨e3,e4⟩,e5,e6⟩:=hcc c (List.mem_of_getElem? hc)
  have hnx:qF (C.take (k+1))=vY (qF (C.take k)) (K2 c.farm c.hour) c.litres:=by
   unfold qF
   rw[List.take_add_one,hc]
   simp
  have hfi:=hint k
  have hbn:=hsm k (K2 c.farm c.hour)
  clear hint hsm hcc hky hc
  generalize qF (C.take k)=f at hnx hfi hbn ⊢
  have hkf:KFit [false,false] (K2 c.farm c.hour):=tP (by omega) (by omega)
  refine yW ?_;intros
  rename Nat=>b5;revert b5
  intro b5
  refine yB (fun e=>e=.cells b5 (clmC c) 57) [6,10] 12 rfl (by kernel_rfl) rfl ?_
  simp only[List.take_succ_cons,List.take_zero,List.drop_succ_cons,List.drop_zero]
  repeat' first|(refine zgd ?_;first|(refine xH rfl rfl (zR (z:=.i 0) (k:=K2 c.farm c.hour) rfl wN wL rfl rfl yP rfl rfl hkf (xZ hfi _) rfl) ?_)|(refine yN rfl rfl (wS (z:=.i 0) (k:=K2 c.farm c.hour) rfl wN wL rfl rfl rfl rfl hkf (fun _=>qJ)) ?_;rintro _ _ ⟨es,clock,e,hE,he,hek⟩;refine⟨zks,?_⟩)|(refine xH rfl rfl (xC (z:=.i 0) (k:=K2 c.farm c.hour) rfl wN wL rfl rfl hE yP rfl rfl hkf (vH hfi _) rfl) ?_))|(refine xD (.entryStore _ _ _ _) ?_;refine yE rfl rfl (xQ (v:=.i _) hE he hek rfl rfl rfl rfl (qJ) (wA _ _ _ _)) ?_)|(refine yX ?_;intros)|refine vX rfl rfl rfl ?_ ?_|fail
  all_goals
   try rw[uE (show-9223372036854775808≤zV f (K2 c.farm c.hour)+c.litres∧zV f (K2 c.farm c.hour)+c.litres≤9223372036854775807 by omega)]
   exact⟨(k+1,cntK f (K2 c.farm c.hour) n),hk,by dsimp only;omega,by dsimp only;rw[hnx];exact(St.le_of zC zJ)⟩
 ·obtain rfl:k=C.length:=by omega
  rw[List.take_length]
  unfold tL
  have hLl: ∀hit L,GathO d.hours.toNat d.F.length (qF C) hit L→L.length≤4000000:=fun hit L h=>by
   have h1:=gathO_len h
   have h2:d.hours.toNat *d.F.length≤4096*600:=Nat.mul_le_mul (by omega) hF
   omega
  clear hint hsm hcc
  generalize qF C=g at hky hLl ⊢
  repeat' first|(refine xD (.range _ _) ?_;refine zK rfl rfl rfl (g_rangeKm rfl rfl (fun e=>qJ)) ?_;rintro _ _ ⟨r,es,clock,hE⟩)|(refine yX ?_;intros)|(refine yV ?_ ?_<;>(intro z;cases z with|_ h)<;>intro hp)|exact nl|fail
  refine zU (fun(z:Array Nat×List Ord'×Value)=>(⟨[(2,.slv z.2.2),(29,.ptr r 0)],.obj r (.mapIter (some bm) clock z.1 clock)::.obj bm (.map es clock)::.row z.2.2 95 4 (z.2.1.map ordC)::σ,[],f115.ntmps⟩:St)) (fun z=>GathO d.hours.toNat d.F.length g (HitK es z.1) z.2.1) (fun z=>(leftOf es z.1).size) (#[],[],nilS) (GathO.nil _ _ g es) (St.le_of zC yY) ?_
  intro z hI
  obtain⟨seen,L,v⟩:=z
  dsimp only at hI ⊢
  have hHm:=hLl _ _ hI
  have hHe:(L.map ordC).length=L.length:=List.length_map _
  repeat' first|(refine xD (.next _ _) ?_;refine zK rfl rfl rfl (g_nextKm hE rfl yP (by intro s;exact Upd.here)) ?_;rintro _ _ (hdn|⟨e,k,y,he,hkk,hv,h0,hn,hpp,hm⟩);rotate_left;obtain⟨a,u,w,rfl,ha,hu,rfl⟩:=hky k y h0)|(refine xD (.call {callee:=.value (.func 122),args:=_,argTypes:=_}) ?_;refine zK rfl rfl rfl (zQ rfl rfl (zX (by kernel_rfl)) (sortOut_c hHm (fun e=>qJ))) ?_;rintro _ _ ⟨rfl,S,hS1,hS2,rfl⟩)|(refine xD (.entry _) ?_;apply wW;rfl;rfl;rfl;exact g_entryKm hE he hkk hv rfl yP yP)|(refine yX ?_;intros)|fail
  ·have hst:=hI.step hu ha (by rw[h0];rfl) he hkk hn hpp
   have hval:zV g (K2 a u)=w:=by unfold zV;rw[h0]
   have hmp:L.map ordC++[ordC (uA g u a)]=(L++[uA g u a]).map ordC:=by simp
   unfold uA at hmp
   rw[hval]at hmp
   rename Value=>v2
   refine⟨(_,L++[uA g u a],v2),hst,hm,?_⟩
   unfold uA
   rw[hval]
   dsimp only
   rw[←hmp]
   exact(St.le_of zC zJ)
  ·refine zS (σ3:=.row v 95 4 (S.map ordC)::σ) .nil zG zJ ?_
   rw[hI.done hdn hS1 hS2]
   exact xS .here (.here .nil) (zY .mk)
theorem fOrd_idx(l:List Ord')(g:Nat)(first cap:List AV)(p:Ord'→Bool)(σ:List Ent)(he:Enters prog g)(hf: ∀(k:Nat) (c:Ord'),l[k]?=some c→SCall prog g (first++[(ordV) c]++cap) σ (Is (.bool (p c)) σ)):
  SCall prog 176 [.dl 4 (l.map ordC),.fn (.func g) first cap] σ (Is (.int .i64 (yG p l 0)) σ):=by
 refine zZ func176 rfl (by simp) ?_
 refine uZ ?_;and_intros<;>first|exact nl|intros
 refine jY (t:=0) rfl (by first|exact(List.length_map _).symm|rfl) (fun hlen=>?_)
 refine zU (fun(k:Nat)=>(⟨[(0,.dl 4 (l.map ordC)),(1,.fn (.func g) first cap),(7,.int .i64 l.length),(8,.int .i64 k)],σ,[],f176.ntmps⟩:St)) (fun k=>k≤l.length∧yG p l 0=yG p (l.drop k) k) (fun k=>l.length-k) 0 (⟨Nat.zero_le _,rfl⟩) (St.le_of zC yY) ?_
 intro k hI
 by_cases hk:k<l.length
 ·obtain⟨c,hc⟩: ∃c,l[k]?=some c:=⟨_,List.getElem?_eq_getElem hk⟩
  have hd:=pU p hc
  repeat' first|(refine zB ?_;intros)|(apply qX;exact zD;rfl;rfl;exact zQ rfl rfl he (hf k c hc))|(refine xB ?_;intros)|(refine yV ?_ ?_<;>(intro z;cases z with|_ h)<;>intro hp)|exact nl|fail
  ·refine zW .nil (.cons (.ofTmp rfl) .nil) (List.Sublist.refl _) (int_eq ?_)
   rw[hI.2,hd,if_pos (by assumption)]
  ·refine⟨k+1,⟨hk,by rw[hI.2,hd,if_neg (by simp[*])]⟩,by omega,St.le_of zC yY⟩
 ·refine uZ ?_;and_intros<;>first|exact nl|intros
  refine zW .nil (.cons (.ofTmp rfl) .nil) (List.Sublist.refl _) (int_eq ?_)
  rw[hI.2,List.drop_of_length_le (by omega)];rfl
theorem fOrd_any(l:List Ord')(g:Nat)(first cap:List AV)(p:Ord'→Bool)(σ:List Ent)(he:Enters prog g)(hf: ∀(k:Nat) (c:Ord'),l[k]?=some c→SCall prog g (first++[(ordV) c]++cap) σ (Is (.bool (p c)) σ)):
  SCall prog 116 [.dl 4 (l.map ordC),.fn (.func g) first cap] σ (Is (.bool (l.any p)) σ):=by
 refine zZ func116 rfl (by simp) ?_
 repeat' first|(apply yQ;exact zD;rfl;rfl;refine zL ?_;exact fOrd_idx l g first cap p σ he hf)|(refine xV ?_;and_intros<;>first|exact nl|intros)|cases ‹BV _ _›|fail
 refine zW .nil (.cons (.ofTmp rfl) .nil) (List.Sublist.refl _) (zN ?_)
 exact idxFrom_any p l 0
def bigO(o:Ord'):Bool:=decide (1073741824<o.litres)
def pN(d:Dis)(C:List Clm):Int:=if 1024<(d.R.length:Int)*d.hours then 2 else if (tL d C).any bigO then 270 else 0
theorem asked1_c(o:Ord')(σ:List Ent):SCall prog 117 [ordV o] σ (Is (.bool (bigO o)) σ):=by
 refine zZ func117 rfl (by simp) ?_
 refine yW ?_;intros
 all_goals
  refine zW .nil zG yY (zN ?_)
  rfl
theorem asked_c(d:Dis)(hd:yZ d=0)(C:List Clm)(hC:ClmsOk d C)(σ:List Ent):SCall prog 61 [disV d,clms C] σ (Is (.tup [ords (if pN d C=0 then tL d C else []),.int .i64 (pN d C)]) σ):=by
 refine zZ func61 rfl (by simp) ?_
 have c1:=fun σ=>clmCheck_c d hd C hC σ
 have c2:=fun σ=>outlets_c d hd C hC σ
 have c3:=fun σ=>fOrd_any (tL d C) 117 [] [] bigO σ (zX (by kernel_rfl)) (fun _ o _=>asked1_c o σ)
 have hH:=xF (zP hd).2
 have hR:=(yC (zP hd).1).1
 have hH1:1≤d.hours:=by
  have hv:=(zP hd).2
  unfold yD tY at hv
  simp[vS]at hv
  omega
 have hm1:0≤(d.R.length:Int)*d.hours:=Int.mul_nonneg (by omega) (by omega)
 have hm2:(d.R.length:Int)*d.hours≤64*4096:=Int.mul_le_mul (by omega) hH (by omega) (by omega)
 unfold pN
 generalize tL d C=O at c2 c3 ⊢
 by_cases h1:1024<(d.R.length:Int)*d.hours
 ·rw[if_pos h1,if_neg (by decide)]
  clear c2 c3
  repeat' first|(apply yQ;exact zD;rfl;rfl;refine zL ?_;exact c1 _)|(refine xV ?_;and_intros<;>first|exact nl|intros)|fail
  all_goals
   refine zS (σ3:=σ) .nil zG zJ ?_
   exact xK (sz:=4) (.tup (.here (.same .nil)) .nil) (zY .mk)
 rw[if_neg h1]
 cases hb:O.any bigO with
 |true=>
  rw[hb]at c3
  rw[if_pos rfl,if_neg (by decide)]
  repeat' first|(apply yQ;exact zD;rfl;rfl;refine zL ?_;first|exact c1 _|exact c2 _|exact c3 _)|(refine xV ?_;and_intros<;>first|exact nl|intros)|fail
  all_goals
   refine zS (σ3:=σ) .nil zG zJ ?_
   exact xK (sz:=4) (.tup (.here (.same .nil)) .nil) (zY .mk)
 |false=>
  rw[hb]at c3
  rw[if_neg (show ¬ (false=true) by decide),if_pos rfl]
  repeat' first|(apply yQ;exact zD;rfl;rfl;refine zL ?_;first|exact c1 _|exact c2 _|exact c3 _)|(refine xV ?_;and_intros<;>first|exact nl|intros)|fail
  all_goals
   refine zS (σ3:=σ) .nil zG zJ ?_
   exact zY .mk
structure Flt where
 kind:Int
 hour:Int
 index:Int
 litres:Int
 limit:Int
 deriving DecidableEq
abbrev fltC(f:Flt):List AV:=[.int .i64 f.kind,.int .i64 f.hour,.int .i64 f.index,.int .i64 f.litres,.int .i64 f.limit]
abbrev fltV(f:Flt):AV:=.agg (fltC f)
def tB(U:BkF)(k:List KL):Bool:=match U k with|some (.b b)=>b|_=>false
def BoolV(f:BkF):Prop:= ∀k x,f k=some x→ ∃b,x=.b b
theorem tB_getD{f:BkF}(h:BoolV f)(k:List KL):(f k).getD (.b false)=.b (tB f k):=by
 unfold tB
 cases hf:f k with
 |none=>rfl
 |some x=>obtain⟨n,rfl⟩:=h k x hf;rfl
theorem BoolV.upd{f:BkF}(h:BoolV f)(k:List KL)(b:Bool):BoolV (xN f k (.b b)):=fun q x hq=>by
 unfold xN at hq
 split at hq
 ·cases hq;exact⟨b,rfl⟩
 ·exact h q x hq
noncomputable def lateS (d:Dis):List Pl→BkF→BkF→List Flt
 |[],_,_=>[]
 |p::l,m,U=>match d.R[p.1]? with
  |none=>[]
  |some x=>
   if tB U (atK p)=true then lateS d l m (xN U (K2 x.up ((p.2:Int)-x.delay)) (.b true))
   else if zV m (atK p)=0 then lateS d l m U
   else match tZ x (zV m (atK p)) with
    |none=>⟨7,p.2,p.1,zV m (atK p),0⟩::lateS d l m (xN U (K2 x.up ((p.2:Int)-x.delay)) (.b true))
    |some v=>if (p.2:Int)<x.delay then ⟨7,p.2,p.1,zV m (atK p),0⟩::lateS d l m (xN U (K2 x.up ((p.2:Int)-x.delay)) (.b (tB U (K2 x.up ((p.2:Int)-x.delay)))))else lateS d l (vY m (K2 x.up ((p.2:Int)-x.delay)) v) U
noncomputable def lateL (d:Dis) (out:List Ord'):List Flt:=lateS d (yL d.R.length d.hours.toNat) (askF d out) (fun _=>none)
theorem late_c(d:Dis)(out:List Ord')(σ:List Ent):SCall prog 64 [disV d,ords out] σ (fun r τ=> ∃b1 b2,r=.fn (.func 125) [] [.ptr b2 0,.ptr b1 0]∧τ=.cells b2 [ords out] 36::.cells b1 (disC d) 31::σ):=by
 refine zZ func64 rfl (by simp) ?_
 refine yW ?_;intros
 rename Nat=>b2;revert b2;rename Nat=>b1;revert b1
 intro b1 b2
 refine zS (σ3:=.cells b2 [ords out] 36::.cells b1 (disC d) 31::σ) .nil zG zJ ?_
 exact zY ⟨b1,b2,rfl,rfl⟩
open Go.WideMaps Go.Sort Go.Shelf
theorem ikF_le{x:Rch}(h:RchOk x){w v:Int}(hv:tZ x w=some v):0≤v∧v≤1073741824:=by
 have:=h.cp
 unfold tZ at hv
 split at hv
 ·cases hv;omega
 ·split at hv
  ·cases hv
  ·split at hv
   ·cases hv;omega
   ·cases hv
theorem pls_len(n H:Nat):(yL n H).length=n*H:=by
 induction n with
 |zero=>simp[yL]
 |succ n ih=>rw[plsUp_succ,List.length_append,ih,List.length_map,List.length_range,Nat.add_mul];omega
theorem pls_few{n:Nat}{h:Int}(hW:(n:Int)*h≤1024):(yL n h.toNat).length≤1024:=by
 rw[pls_len]
 rcases Int.lt_or_le h 0 with h0|h0
 ·rw[show h.toNat=0 by omega];simp
 ·obtain⟨m,rfl⟩: ∃m:Nat,h=m:=⟨h.toNat,by omega⟩
  rw[Int.toNat_natCast]
  have:((n*m:Nat):Int)≤1024:=by rw[Int.natCast_mul];exact hW
  omega
def PlanRes(d:Dis)(out:List Ord')(r:AV):Prop:=(planO d out=none∧r=.tup [ords [],.bool false,.int .i64 0])∨ ∃L,planO d out=some L∧
 ((4096<L.length∧r=.tup [ords [],.bool false,.int .i64 2])∨(L.length≤4096∧ ∃S:List Ord',S.Perm L∧S.Pairwise (fun a b=>ltOf (fun a b=>pV (yF a) (yF b)) b a=false)∧r=.tup [ords S,.bool true,.int .i64 0]))
theorem plan_c(d:Dis)(out:List Ord')(hO:OutOk d out)(σ:List Ent):SCall prog 62 [disV d,ords out] σ (fun r τ=>PlanRes d out r∧τ=σ):=by
 refine zZ func62 rfl (by simp) ?_
 have cn:=narrow_c d out
 rw[hO.nar]at cn
 obtain⟨hd,hl,hb,hW⟩:=narrow_ok hO.nar
 have hoo:=hO.out
 have hvv:=(zP hd).2
 have hF:=(yC (zP hd).1).2.1
 have hR:=(yC (zP hd).1).1
 have hH:=xF hvv
 have hH1:1≤d.hours:=by
  have hv:=hvv
  unfold yD tY at hv
  simp[vS]at hv
  omega
 have hoe: ∀o∈out,∃(a:Nat) (y:Frm),o.outlet=true∧(0≤o.hour∧o.hour<d.hours)∧o.index=a∧(d.F.map frmC)[a]?=some (frmC y)∧vP d o.index=y.reach∧(0≤y.reach∧y.reach<d.R.length)∧0≤o.litres∧o.litres≤1073741824:=fun o ho=>by
  have h1:=ords_each hb o ho
  have h2:=hoo o ho
  unfold kL at h1
  rw[h2,if_pos rfl]at h1
  simp only[Bool.and_eq_true,decide_eq_true_eq]at h1
  obtain⟨a,e1,e2⟩:=nat_of (n:=o.index) (m:=d.F.length) (by omega)
  obtain⟨y,hy⟩:=zH e2
  have hyr:0≤y.reach∧y.reach<d.R.length:=by
   unfold yD at hvv
   simp only[Bool.and_eq_true]at hvv
   have g:=List.all_eq_true.1 hvv.1.1.2 y (List.mem_of_getElem? hy)
   unfold farmB idxB at g
   simp only[Bool.and_eq_true,decide_eq_true_eq]at g
   exact g.1.2
  refine⟨a,y,h2,by omega,e1,by rw[List.getElem?_map,hy];rfl,?_,hyr,by omega,by omega⟩
  unfold vP
  rw[e1,Int.toNat_natCast,hy]
 have hask: ∀k,∀q,0≤zV (askF d (out.take k)) q∧zV (askF d (out.take k)) q≤4398046511104:=fun k q=>by
  have:=askF_le (d:=d) (B:=0) (out:=out.take k) (f:=fun _=>none) (fun o ho=>by
   obtain⟨_,_,_,_,_,_,_,_,h1,h2⟩:=hoe o (List.mem_of_mem_take ho)
   exact⟨h1,h2⟩) (fun q=>by simp[zV]) q
  rw[List.length_take]at this
  unfold askF
  omega
 have hint: ∀k,IntV (askF d (out.take k)):=fun k=>askF_int (fun k x h=>by cases h)
 clear hb
 repeat' first|(refine xD (.makeMap _ _) ?_;refine tD [false,false] rfl rfl rfl (vE [false,false]) ?_;intro bm)|(refine yX ?_;intros)|(apply yQ;exact zD;rfl;rfl;refine zL ?_;exact cn _)|(refine yV ?_ ?_<;>(intro z;cases z with|_ h)<;>intro hp)|exact nl|fail
 clear cn
 rename Nat=>b7;revert b7;rename Nat=>bm;revert bm;rename Nat=>b6;revert b6;rename Nat=>b5;revert b5;rename Nat=>b4;revert b4;rename Nat=>bd;revert bd
 intro bd b4 b5 b6 bm b7
 refine zU (fun(z:Nat×Nat)=>(⟨[(1,ords out),(2,.ptr bd 0),(4,.ptr b4 0),(5,.ptr b5 0),(6,.ptr b6 0),(7,.ptr b7 0),(23,ords out),(24,.int .i64 out.length),(25,.int .i64 (z.1:Nat))],.cells b7 [.mp bm] 93::.kmap bm [false,false] (askF d (out.take z.1)) z.2::.cells b6 [.int .i64 0] 40::.cells b5 [cA (.bool false)] 4::.cells b4 [cA (.slice none 0 0)] 36::.cells bd (disC d) 31::σ,[],f62.ntmps⟩:St)) (fun z=>z.1≤out.length) (fun z=>out.length-z.1) (0,0) (Nat.zero_le _) (St.le_of zC yY) ?_
 intro z hI
 obtain⟨k,n⟩:=z
 dsimp only at hI ⊢
 by_cases hk:k<out.length
 ·obtain⟨o,ho⟩:=zH hk
  have go:=ord_get ho
  obtain⟨a,y,e1,⟨e2,e3⟩,e4,gy,e5,⟨e6,e7⟩,e8,e9⟩:=hoe o (List.mem_of_getElem? ho)
  have hnx:askF d (out.take (k+1))=vY (askF d (out.take k)) (K2 y.reach o.hour) o.litres:=by
   unfold askF
   rw[List.take_add_one,ho,←e5]
   simp
  have hfi:=hint k
  have hbn:=hask k (K2 y.reach o.hour)
  clear hint hask hoe hoo hO ho
  obtain⟨oh,oi,ol,ob⟩:=o
  dsimp only at e1 e2 e3 e4 e5 e8 e9 hnx hbn
  subst e1 e4
  generalize askF d (out.take k)=f at hnx hfi hbn ⊢
  have hsm: -4611686018427387904≤zV f (K2 y.reach oh)+ol∧zV f (K2 y.reach oh)+ol≤4611686018427387904:=by omega
  have hkf:KFit [false,false] (K2 y.reach oh):=tP (by omega) (by omega)
  refine yW ?_;intros
  rename Nat=>b9;revert b9
  intro b9
  refine yB (fun e=>e=.cells b7 [.mp bm] 93∨e=.cells b9 (ordC ⟨oh,a,ol,true⟩) 95∨e=.cells bd (disC d) 31) [11,15] 17 rfl (by kernel_rfl) rfl ?_
  simp only[List.take_succ_cons,List.take_zero,List.drop_succ_cons,List.drop_zero]
  repeat' first|(refine zgd ?_;first|(refine xH rfl rfl (zR (z:=.i 0) (k:=K2 y.reach oh) rfl pL pK rfl rfl yP rfl rfl hkf (xZ hfi _) rfl) ?_)|(refine yN rfl rfl (wS (z:=.i 0) (k:=K2 y.reach oh) rfl pL pK rfl rfl rfl rfl hkf (fun _=>Upd.there (Upd.there Upd.here))) ?_;rintro _ _ ⟨es,clock,e,hE,he,hek⟩;refine⟨zks,?_⟩)|(refine xH rfl rfl (xC (z:=.i 0) (k:=K2 y.reach oh) rfl pL pK rfl rfl hE yP rfl rfl hkf (vH hfi _) rfl) ?_))|(refine xD (.entryStore _ _ _ _) ?_;refine yE rfl rfl (xQ (v:=.i _) hE he hek rfl rfl rfl rfl (Upd.there (Upd.there Upd.here)) (wA _ _ _ _)) ?_)|(refine yX ?_;intros)|refine vX rfl rfl rfl ?_ ?_|fail
  all_goals
   rw[uE (show-9223372036854775808≤zV f (K2 y.reach oh)+ol∧zV f (K2 y.reach oh)+ol≤9223372036854775807 by omega)]
   exact⟨(k+1,cntK f (K2 y.reach oh) n),hk,by dsimp only;omega,by dsimp only;rw[hnx];exact(St.le_of zC zJ)⟩
 ·obtain rfl:k=out.length:=by omega
  have hb0:=hask out.length
  have hi0:=hint out.length
  rw[List.take_length]at hb0 hi0 ⊢
  have hY:=upward1_c d (by omega) hR
  have hTr:=wP hvv
  have hpl:planO d out=planS d (yL d.R.length d.hours.toNat) (askF d out) out:=rfl
  obtain⟨P,hP⟩: ∃P,P=yL d.R.length d.hours.toNat:=⟨_,rfl⟩
  have hPl: ∀p∈P,p.1<d.R.length∧p.2<d.hours.toNat:=fun p hp=>by rw[hP]at hp;exact mem_pls.1 hp
  have hPn:P.length≤1024:=by rw[hP];exact pls_few hW
  rw[←hP]at hY hpl
  clear hint hask hoe hoo hO hP
  generalize askF d out=f0 at hb0 hi0 hpl ⊢
  unfold PlanRes
  generalize planO d out=Z at hpl ⊢
  repeat' first|(refine xD (.call {callee:=.value (.func 119),args:=_,argTypes:=_}) ?_;refine zK rfl rfl rfl (zQ rfl rfl (zX (by kernel_rfl)) (cloneO_c out (by omega) _)) ?_;rintro _ _ ⟨v0,rfl,rfl⟩)|(refine xD (.call {callee:=.value (.func 120),args:=_,argTypes:=_}) ?_;refine zK rfl rfl rfl (zQ rfl rfl (zX (by kernel_rfl)) (upward_c d _)) ?_;rintro _ _ ⟨ub,rfl,rfl⟩)|(refine yX ?_;intros)|(refine yV ?_ ?_<;>(intro z;cases z with|_ h)<;>intro hp)|exact nl|fail
  refine yS (s':=⟨[(2,.ptr bd 0),(4,.ptr b4 0),(5,.ptr b5 0),(6,.ptr b6 0),(7,.ptr b7 0),(53,.fn (.func 177) [] [.ptr ub 0])],.cells ub (disC d) 31::.row v0 95 4 (out.map ordC)::.cells b7 [.mp bm] 93::.kmap bm [false,false] f0 n::.cells b6 [.int .i64 0] 40::.cells b5 [cA (.bool false)] 4::.cells b4 [.slv v0] 36::.cells bd (disC d) 31::σ,[],f62.ntmps⟩) (St.le_of zC yY) ?_
  refine pY rfl (zX (by kernel_rfl)) ?_
  intro D l0 fn
  show SCall _ _ _ (Ent.loop _ _ _ _ ?ee ?nn ?ps ?asg ?body _::_) _
  obtain⟨Lp,hL⟩: ∃L,L=Ent.loop l0 .ready none fn ?ee ?nn ?ps ?asg ?body D:=⟨_,rfl⟩
  obtain⟨L2,hL2⟩: ∃L2,L2=Ent.loop l0 .done (some .ret) fn ?ee ?nn ?ps ?asg ?body D:=⟨_,rfl⟩
  rw[←hL]
  refine SCall.mono (hY ub l0 _ (fun k τ=> ∃(f:BkF) (n:Nat) (v:Value) (acc:List Ord'),Z=planS d (P.drop k) f acc∧IntV f∧(∀q,0≤zV f q∧zV f q≤4398046511104+k*1073741824)∧acc.length≤4096+k∧τ=Lp::.obj D (.deferred (some []))::.cells ub (disC d) 31::.row v 95 4 (acc.map ordC)::.cells b7 [.mp bm] 93::.kmap bm [false,false] f n::.cells b6 [.int .i64 0] 40::.cells b5 [cA (.bool false)] 4::.cells b4 [.slv v] 36::.cells bd (disC d) 31::σ) (fun τ=>Z=none∧ ∃(f:BkF) (n:Nat) (v:Value) (acc:List Ord'),τ=L2::.obj D (.deferred (some []))::.cells ub (disC d) 31::.row v 95 4 (acc.map ordC)::.cells b7 [.mp bm] 93::.kmap bm [false,false] f n::.cells b6 [.int .i64 0] 40::.cells b5 [cA (.bool false)] 4::.cells b4 [cA (.slice none 0 0)] 36::.cells bd (disC d) 31::σ) ?_ ?_ ⟨f0,n,v0,out,hpl,hi0,fun q=>by have:=hb0 q;omega,by omega,rfl⟩) ?_
  ·rintro k τ ⟨f,n,v,acc,_,_,_,_,rfl⟩
   simp
  ·rintro k x τ hx ⟨f,n,v,acc,hz,hfi,hfb,hac,rfl⟩
   obtain⟨p,hp,rfl⟩: ∃p,P[k]?=some p∧x=[AV.int .i64 p.1,AV.int .i64 p.2]:=by
    rw[List.getElem?_map]at hx
    cases hc:P[k]? with
    |none=>rw[hc]at hx;cases hx
    |some c=>rw[hc]at hx;cases hx;exact⟨c,rfl,rfl⟩
   obtain⟨hp1,hp2⟩:=hPl p (List.mem_of_getElem? hp)
   have hkl:k<P.length:=(List.getElem?_eq_some_iff.1 hp).1
   rw[wZ hp,planS]at hz
   obtain⟨r,u⟩:=p
   dsimp only at hp1 hp2 hz
   obtain⟨x,hx⟩:=zH hp1
   have gx:(d.R.map rchC)[r]?=some (rchC x):=by rw[List.getElem?_map,hx];rfl
   have hok:=RchOk.of (yA hvv hx)
   have hup:=hTr.lt hx
   have hge:=hTr.ge hx
   have hdl:=hok.dl
   rw[hx]at hz
   dsimp only at hz
   have hkf:KFit [false,false] (K2 (r:Int) (u:Int)):=tP (by omega) (by omega)
   have hvg:=xZ hfi (K2 (r:Int) (u:Int))
   have hbw:=hfb (K2 (r:Int) (u:Int))
   obtain⟨w,hw⟩: ∃w,zV f (K2 (r:Int) (u:Int))=w:=⟨_,rfl⟩
   rw[hw]at hvg hbw hz
   have hacm:(acc.map ordC).length=acc.length:=List.length_map _
   clear hY hTr hpl hPl hb0 hi0 hw hp hx
   rw[hL]
   refine SRound.sub ?_
   refine sround yP rfl (by decide) ?_
   by_cases hw0:w=0
   ·rw[if_pos hw0]at hz
    subst hw0
    repeat' first|(refine xD (.lookup _ _ _ false) ?_;refine wW rfl rfl rfl (zR (z:=.i 0) (k:=K2 (r:Int) (u:Int)) rfl pL pK rfl rfl yP rfl rfl hkf hvg rfl) ?_)|(refine yX ?_;intros)|(refine yV ?_ ?_<;>(intro z;cases z with|_ h)<;>intro hp)|exact nl|fail
    subst hL
    exact⟨_,List.Sublist.refl _,.inl ⟨rfl,f,n,v,acc,hz,hfi,fun q=>by have:=hfb q;omega,by omega,rfl⟩⟩
   ·rw[if_neg hw0]at hz
    have ci:=fun σ=>intake_c x hok w (by omega) σ
    cases hik:tZ x w with
    |none=>
     rw[hik]at hz ci
     dsimp only at hz
     simp only[Option.getD_none,Option.isSome_none]at ci
     clear hik
     repeat' first|(refine xD (.lookup _ _ _ false) ?_;refine wW rfl rfl rfl (zR (z:=.i 0) (k:=K2 (r:Int) (u:Int)) rfl pL pK rfl rfl yP rfl rfl hkf hvg rfl) ?_)|(refine yX ?_;intros)|(apply yQ;exact zD;rfl;rfl;refine zL ?_;exact ci _)|(refine yV ?_ ?_<;>(intro z;cases z with|_ h)<;>intro hp)|exact nl|fail
     subst hL hL2
     exact⟨_,.cons _ (List.Sublist.refl _),.inr ⟨rfl,hz,f,n,v,acc,rfl⟩⟩
    |some q=>
     obtain⟨q0,q1⟩:=ikF_le hok hik
     rw[hik]at hz ci
     dsimp only at hz
     simp only[Option.getD_some,Option.isSome_some]at ci
     clear hik
     by_cases hlt:(u:Int)<x.delay
     ·rw[if_pos hlt]at hz
      repeat' first|(refine xD (.lookup _ _ _ false) ?_;refine wW rfl rfl rfl (zR (z:=.i 0) (k:=K2 (r:Int) (u:Int)) rfl pL pK rfl rfl yP rfl rfl hkf hvg rfl) ?_)|(refine yX ?_;intros)|(apply yQ;exact zD;rfl;rfl;refine zL ?_;exact ci _)|(refine yV ?_ ?_<;>(intro z;cases z with|_ h)<;>intro hp)|exact nl|fail
      subst hL hL2
      exact⟨_,.cons _ (List.Sublist.refl _),.inr ⟨rfl,hz,f,n,v,acc,rfl⟩⟩
     ·rw[if_neg hlt]at hz
      have hkf2:KFit [false,false] (K2 x.up ((u:Int)-x.delay)):=tP (by omega) (by omega)
      have hb2:=hfb (K2 x.up ((u:Int)-x.delay))
      have hmp:acc.map ordC++[ordC ⟨(u:Int)-x.delay,r,q,false⟩]=(acc++[(⟨(u:Int)-x.delay,r,q,false⟩:Ord')]).map ordC:=by simp
      repeat' first|(refine xD (.lookup _ _ _ false) ?_;refine wW rfl rfl rfl (zR (z:=.i 0) (k:=K2 (r:Int) (u:Int)) rfl pL pK rfl rfl yP rfl rfl hkf hvg rfl) ?_)|(refine yX ?_;intros)|(apply yQ;exact zD;rfl;rfl;refine zL ?_;exact ci _)|(refine yV ?_ ?_<;>(intro z;cases z with|_ h)<;>intro hp)|exact nl|fail
      rename Nat=>b13
      rename Value=>v2
      refine yB (fun e=>e=.cells b7 [.mp bm] 93∨e=.cells b13 (rchC x) 108) [8,11] 13 rfl (by kernel_rfl) rfl ?_
      simp only[List.take_succ_cons,List.take_zero,List.drop_succ_cons,List.drop_zero]
      clear hbw ci hvg hkf
      repeat' first|(refine zgd ?_;first|(refine xH rfl rfl (zR (z:=.i 0) (k:=K2 x.up ((u:Int)-x.delay)) rfl pL pK rfl rfl yP rfl rfl hkf2 (xZ hfi _) rfl) ?_)|(refine yN rfl rfl (wS (z:=.i 0) (k:=K2 x.up ((u:Int)-x.delay)) rfl pL pK rfl rfl rfl rfl hkf2 (fun _=>qJ)) ?_;rintro _ _ ⟨es,clock,e,hE,he,hek⟩;refine⟨zks,?_⟩)|(refine xH rfl rfl (xC (z:=.i 0) (k:=K2 x.up ((u:Int)-x.delay)) rfl pL pK rfl rfl hE yP rfl rfl hkf2 (vH hfi _) rfl) ?_))|(refine xD (.entryStore _ _ _ _) ?_;refine yE rfl rfl (xQ (v:=.i _) hE he hek rfl rfl rfl rfl (qJ) (wA _ _ _ _)) ?_)|(refine yX ?_;intros)|refine vX rfl rfl rfl ?_ ?_|fail
      all_goals
       try rw[uE (show-9223372036854775808≤zV f (K2 x.up ((u:Int)-x.delay))+q∧zV f (K2 x.up ((u:Int)-x.delay))+q≤9223372036854775807 by omega)]
       subst hL
       refine⟨_,.cons _ (.cons _ (List.Sublist.refl _)),.inl ⟨rfl,vY f (K2 x.up ((u:Int)-x.delay)) q,cntK f (K2 x.up ((u:Int)-x.delay)) n,v2,acc++[⟨(u:Int)-x.delay,r,q,false⟩],hz,hfi.add _ _,fun qq=>?_,by simp;omega,?_⟩⟩
       ·rw[wD]
        have:=hfb qq
        split<;>omega
       ·rw[←hmp]
        rfl
  ·rintro rr τ (⟨f,n,v,acc,hz,hfi,hfb,hac,rfl⟩|⟨hz,f,n,v,acc,rfl⟩)
   ·rw[List.length_map,List.drop_length,planS]at hz
    rw[List.length_map]at hac
    have hacm:(acc.map ordC).length=acc.length:=List.length_map _
    rw[hL]
    refine RangeEnd.done .here ?_
    clear hY hTr hpl hPl hb0 hi0 hfb hfi
    by_cases h4:4096<acc.length
    ·refine yW ?_;intros
     refine zS (σ3:=σ) zmr zG zJ ?_
     exact xK (sz:=4) (.tup (.here (.same (.same .nil))) .nil) (zY ⟨.inr ⟨acc,hz,.inl ⟨h4,rfl⟩⟩,rfl⟩)
    ·have hle:acc.length≤4000000:=by omega
     refine yW ?_;intros
     refine wH (fun e=>e=.cells b4 [.slv v] 36) [1,2] rfl rfl ?_
     repeat' first|(refine zgp (.call {callee:=.value (.func 123),args:=_,argTypes:=_}) ?_;refine yN rfl rfl (zQ rfl rfl (zX (by kernel_rfl)) (compare_c _)) ?_;rintro _ _ ⟨⟩;refine⟨zks,?_⟩)|(refine zgp (.call {callee:=.value (.func 122),args:=_,argTypes:=_}) ?_;refine yN rfl rfl (zQ rfl rfl (zX (by kernel_rfl)) (sortOrd_c hle (fun e=>qJ))) ?_;rintro _ _ ⟨rfl,S,hS1,hS2,rfl⟩;refine⟨zks,?_⟩)|(refine yX ?_;intros)|fail
     refine zS (σ3:=.row v 95 4 (S.map ordC)::σ) zmr zG zJ ?_
     exact xS .here (.tup (.here (.same (.same .nil))) .nil) (zY ⟨.inr ⟨acc,hz,.inr ⟨by omega,S,hS1,hS2,rfl⟩⟩,rfl⟩)
   ·rw[hL2]
    refine RangeEnd.jump .here ?_
    clear hY hTr hpl hPl hb0 hi0
    refine yW ?_;intros
    refine zS (σ3:=σ) zmr zG zJ ?_
    exact xK (sz:=4) (.tup (.here (.same (.same .nil))) .nil) (zY ⟨.inl ⟨hz,rfl⟩,rfl⟩)
end Go.Proofs.YtaoaafdommlhcaaGreat
