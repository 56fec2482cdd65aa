/- Parts of the proof that belong together: Mc Md Jj. -/
import Derived.Test.YtaoaafdommlhcaaGreatHA07
import Derived.Test.YtaoaafdommlhcaaGreatHA16
import Derived.Test.YtaoaafdommlhcaaGreatHA33
set_option maxRecDepth 10000
set_option maxHeartbeats 32000000
set_option linter.unusedSimpArgs false
set_option linter.unusedVariables false
set_option autoImplicit false
open Go.Proofs.Tryz
namespace Go.Proofs.YtaoaafdommlhcaaGreat
open Go.Shelf Go.Sort Go.RowKit Go.WideMaps
theorem ik_ok{x:Rch}(h:RchOk x):IkOk tZ xR x:=by
 have hsip:0≤x.siphon∧x.siphon≤1073741824:=by have:=h.cp;omega
 refine⟨fun n v hn hv=>?_,fun n g hn hg h0 h1 hs=>?_,fun n hn hv=>?_,worstF_zero x⟩
 ·unfold tZ at hv
  rw[if_neg (by omega)]at hv
  split at hv
  ·cases hv
  ·split at hv
   ·rename_i hN
    cases hv
    have h1:=needN_at hN
    have h2:0<uP x n:=by
     rcases Nat.eq_zero_or_pos (uP x n)with e|e
     ·rw[e]at h1
      have:=worstF_zero x
      have e2:((0:Nat):Int)=0:=rfl
      rw[e2,this]at h1
      omega
     ·exact e
    have h3:=worstF_mono h (u:=(uP x n:Nat)) (v:=max (uP x n:Int) x.siphon) (by omega) (by omega)
    refine⟨by omega,by omega,by omega,by omega,fun e=>?_⟩
    have e2:max (uP x n:Int) x.siphon=(uP x n:Nat):=by omega
    have e3:(uP x n:Int)-1=((uP x n-1:Nat):Int):=by omega
    rw[e2,e3]
    exact needN_lt (by omega)
   ·cases hv
 ·have hle:=(worstF_le h h0).2
  have hN:uP x n≤g.toNat:=by
   rcases Nat.lt_or_ge g.toNat (uP x n)with e|e
   ·have:=needN_lt e
    rw[show ((g.toNat:Nat):Int)=g by omega]at this
    omega
   ·exact e
  refine⟨max (uP x n:Int) x.siphon,?_,by omega⟩
  unfold tZ
  rw[if_neg (by omega),if_neg (by omega),if_pos (by omega)]
 ·unfold tZ at hv
  rw[if_neg (by omega)]at hv
  split at hv
  ·rename_i hb
   have:=(worstF_le h (v:=1073741824) (by decide)).2
   omega
  ·split at hv
   ·cases hv
   ·rename_i hN
    have:=needN_lt (x:=x) (w:=n) (k:=1073741824) (by omega)
    exact this
theorem ik_all{d:Dis}(hv:yD d=true):IkAll tZ xR d.R:=fun _ _ hx=>ik_ok (RchOk.of (yA hv hx))
def RelP(m U:BkF)(S:SS):Prop:= ∀q:Pl,zV m (atK q)=S.m (atK q)∧tB U (atK q)=S.u (atK q)
theorem tB_upd(U:BkF)(k q:List KL)(b:Bool):tB (xN U k (.b b)) q=if q=k then b else tB U q:=by
 unfold tB xN
 by_cases h:q=k
 ·rw[if_pos h,if_pos h]
 ·rw[if_neg h,if_neg h]
theorem putB_at(u:MB)(k q:List KL):putB u k q=if q=k then true else u q:=by
 unfold putB
 by_cases h:q=k
 ·rw[if_pos h,decide_eq_true h,Bool.true_or]
 ·rw[if_neg h,decide_eq_false h,Bool.false_or]
theorem RelP.putU{m U:BkF}{S:SS}(h:RelP m U S)(k:List KL):RelP m (xN U k (.b true)) ⟨S.m,putB S.u k⟩:=fun q=>by
 refine⟨(h q).1,?_⟩
 change tB (xN U k (.b true)) (atK q)=putB S.u k (atK q)
 rw[tB_upd,putB_at]
 split
 ·rfl
 ·exact(h q).2
theorem RelP.keepU{m U:BkF}{S:SS}(h:RelP m U S)(k:List KL):RelP m (xN U k (.b (tB U k))) S:=fun q=>by
 refine⟨(h q).1,?_⟩
 rw[tB_upd]
 split
 ·rename_i e;rw[←e];exact(h q).2
 ·exact(h q).2
theorem RelP.add{m U:BkF}{S:SS}(h:RelP m U S){k:List KL}{v:Int}:RelP (vY m k v) U ⟨putI S.m k (S.m k+v),S.u⟩:=fun q=>by
 refine⟨?_,(h q).2⟩
 rw[wD]
 unfold putI
 dsimp only
 by_cases e:atK q=k
 ·rw[if_pos e,if_pos e,(h q).1,e]
 ·rw[if_neg e,if_neg e,(h q).1,Int.add_zero]
theorem RelP.skip{m U:BkF}{S:SS}(h:RelP m U S){k:List KL}(hk: ∀q:Pl,atK q≠k)(v:Int):RelP m U ⟨putI S.m k v,S.u⟩:=fun q=>by
 refine⟨?_,(h q).2⟩
 unfold putI
 dsimp only
 rw[if_neg (hk q)]
 exact(h q).1
section
variable (d:Dis) (base:MI)
noncomputable abbrev lstT:SS:=lst tZ d.R d.hours.toNat base
noncomputable def prcO (T:SS) (p:Pl):Option Prc:=match d.R[p.1]? with
 |none=>none
 |some x=>if T.u (atK p)=true then none else if T.m (atK p)=0 then none else match tZ x (T.m (atK p)) with
  |none=>none
  |some v=>if x.delay≤(p.2:Int)then some ⟨p.1,(p.2:Int)-x.delay,v,T.m (atK p)⟩else none
noncomputable def fltO (T:SS) (p:Pl):Option Flt:=match d.R[p.1]? with
 |none=>none
 |some x=>if T.u (atK p)=true then none else if T.m (atK p)=0 then none else match tZ x (T.m (atK p)) with
  |none=>some ⟨7,p.2,p.1,T.m (atK p),0⟩
  |some _=>if (p.2:Int)<x.delay then some ⟨7,p.2,p.1,T.m (atK p),0⟩else none
def ordO(p:Prc):Ord':=⟨p.hour,p.reach,p.litres,false⟩
variable {d base}
theorem stp_eq{S:SS}{p:Pl}{x:Rch}(hx:d.R[p.1]?=some x):stp tZ d.R S p=if S.u (atK p)=true then ⟨S.m,putB S.u (K2 x.up ((p.2:Int)-x.delay))⟩else if S.m (atK p)=0 then S else match tZ x (S.m (atK p)) with
  |none=>⟨S.m,putB S.u (K2 x.up ((p.2:Int)-x.delay))⟩
  |some v=>⟨putI S.m (K2 x.up ((p.2:Int)-x.delay)) (S.m (K2 x.up ((p.2:Int)-x.delay))+v),S.u⟩:=by
 unfold stp askV upK
 rw[hx]
 rfl
theorem atK_neg{q:Pl}{a b:Int}(h:b<0):atK q≠K2 a b:=fun e=>by
 have:=(K2_inj.1 e).2
 omega
abbrev preS(ik:Rch→Int→Option Int)(R:List Rch)(base:MI)(a:List Pl):SS:=a.foldl (stp ik R) ⟨base,fun _=>false⟩
theorem sched_is(hT:Tree d.R): ∀(l a:List Pl) (m U:BkF),yL d.R.length d.hours.toNat=a++l→RelP m U (preS tZ d.R base a)→uX d l m U=l.filterMap (prcO d (lstT d base))
 |[],a,m,U,_,_=>by unfold uX;rfl
 |p::l,a,m,U,e,hr=>by
  have hp:p∈yL d.R.length d.hours.toNat:=by rw[e];simp
  obtain⟨x,hx⟩:=vR (mem_pls.1 hp).1
  obtain⟨t1,t2⟩:=lst_at (ik:=tZ) (base:=base) hT e
  have e2:yL d.R.length d.hours.toNat=(a++[p])++l:=by rw[e];simp
  have hst:preS tZ d.R base (a++[p])=stp tZ d.R (preS tZ d.R base a) p:=by simp[preS]
  have ih:=fun m U h=>sched_is hT l (a++[p]) m U e2 h
  rw[hst,stp_eq hx]at ih
  unfold uX
  rw[hx,List.filterMap_cons]
  unfold prcO
  rw[hx]
  dsimp only
  rw[(hr p).1,(hr p).2]
  change (preS tZ d.R base a).m (atK p)=_ at t1
  change (preS tZ d.R base a).u (atK p)=_ at t2
  rw[←t1,←t2]
  by_cases hu:(preS tZ d.R base a).u (atK p)=true
  ·rw[if_pos hu]at ih ⊢
   rw[if_pos hu]
   exact ih _ _ (hr.putU _)
  ·rw[if_neg hu]at ih ⊢
   rw[if_neg hu]
   by_cases hm:(preS tZ d.R base a).m (atK p)=0
   ·rw[if_pos hm]at ih ⊢
    rw[if_pos hm]
    exact ih _ _ hr
   ·rw[if_neg hm]at ih ⊢
    rw[if_neg hm]
    cases hv:tZ x ((preS tZ d.R base a).m (atK p)) with
    |none=>
     rw[hv]at ih
     dsimp only
     exact ih _ _ (hr.putU _)
    |some v=>
     rw[hv]at ih
     dsimp only
     have ih:=ih _ _ hr.add
     by_cases hd:x.delay≤(p.2:Int)
     ·rw[if_pos hd,if_pos hd,ih];rfl
     ·rw[if_neg hd,if_neg hd,ih];rfl
theorem late_is(hT:Tree d.R): ∀(l a:List Pl) (m U:BkF),yL d.R.length d.hours.toNat=a++l→RelP m U (preS tZ d.R base a)→lateS d l m U=l.filterMap (fltO d (lstT d base))
 |[],a,m,U,_,_=>by unfold lateS;rfl
 |p::l,a,m,U,e,hr=>by
  have hp:p∈yL d.R.length d.hours.toNat:=by rw[e];simp
  obtain⟨x,hx⟩:=vR (mem_pls.1 hp).1
  obtain⟨t1,t2⟩:=lst_at (ik:=tZ) (base:=base) hT e
  have e2:yL d.R.length d.hours.toNat=(a++[p])++l:=by rw[e];simp
  have hst:preS tZ d.R base (a++[p])=stp tZ d.R (preS tZ d.R base a) p:=by simp[preS]
  have ih:=fun m U h=>late_is hT l (a++[p]) m U e2 h
  rw[hst,stp_eq hx]at ih
  unfold lateS
  rw[hx,List.filterMap_cons]
  unfold fltO
  rw[hx]
  dsimp only
  rw[(hr p).1,(hr p).2]
  change (preS tZ d.R base a).m (atK p)=_ at t1
  change (preS tZ d.R base a).u (atK p)=_ at t2
  rw[←t1,←t2]
  by_cases hu:(preS tZ d.R base a).u (atK p)=true
  ·rw[if_pos hu]at ih ⊢
   rw[if_pos hu]
   exact ih _ _ (hr.putU _)
  ·rw[if_neg hu]at ih ⊢
   rw[if_neg hu]
   by_cases hm:(preS tZ d.R base a).m (atK p)=0
   ·rw[if_pos hm]at ih ⊢
    rw[if_pos hm]
    exact ih _ _ hr
   ·rw[if_neg hm]at ih ⊢
    rw[if_neg hm]
    cases hv:tZ x ((preS tZ d.R base a).m (atK p)) with
    |none=>
     rw[hv]at ih
     dsimp only
     rw[ih _ _ (hr.putU _)]
     rfl
    |some v=>
     rw[hv]at ih
     dsimp only at ih ⊢
     by_cases hd:(p.2:Int)<x.delay
     ·rw[if_pos hd,if_pos hd]
      dsimp only
      rw[ih _ _ ((hr.keepU _).skip (fun q=>atK_neg (by omega)) _)]
      rfl
     ·rw[if_neg hd,if_neg hd]
      exact ih _ _ hr.add
theorem plan_is(hT:Tree d.R): ∀(l a:List Pl) (f:BkF) (acc:List Ord'),yL d.R.length d.hours.toNat=a++l→RelP f (fun _=>none) (preS tZ d.R base a)→
  planS d l f acc=if l.any (fun p=>(fltO d (lstT d base) p).isSome)=true then none else some (acc++(l.filterMap (prcO d (lstT d base))).map ordO)
 |[],a,f,acc,_,_=>by unfold planS;simp
 |p::l,a,f,acc,e,hr=>by
  have hp:p∈yL d.R.length d.hours.toNat:=by rw[e];simp
  obtain⟨x,hx⟩:=vR (mem_pls.1 hp).1
  obtain⟨t1,t2⟩:=lst_at (ik:=tZ) (base:=base) hT e
  have e2:yL d.R.length d.hours.toNat=(a++[p])++l:=by rw[e];simp
  have hst:preS tZ d.R base (a++[p])=stp tZ d.R (preS tZ d.R base a) p:=by simp[preS]
  have ih:=fun f acc h=>plan_is hT l (a++[p]) f acc e2 h
  rw[hst,stp_eq hx]at ih
  change (preS tZ d.R base a).m (atK p)=_ at t1
  change (preS tZ d.R base a).u (atK p)=_ at t2
  have hu:(preS tZ d.R base a).u (atK p)=false:=(hr p).2.symm
  have hpr:prcO d (lstT d base) p=if (preS tZ d.R base a).m (atK p)=0 then none else match tZ x ((preS tZ d.R base a).m (atK p)) with
    |none=>none
    |some v=>if x.delay≤(p.2:Int)then some ⟨p.1,(p.2:Int)-x.delay,v,(preS tZ d.R base a).m (atK p)⟩else none:=by
   unfold prcO
   rw[hx]
   dsimp only
   rw[←t1,←t2,hu,if_neg (by decide)]
  have hfl:fltO d (lstT d base) p=if (preS tZ d.R base a).m (atK p)=0 then none else match tZ x ((preS tZ d.R base a).m (atK p)) with
    |none=>some ⟨7,p.2,p.1,(preS tZ d.R base a).m (atK p),0⟩
    |some _=>if (p.2:Int)<x.delay then some ⟨7,p.2,p.1,(preS tZ d.R base a).m (atK p),0⟩else none:=by
   unfold fltO
   rw[hx]
   dsimp only
   rw[←t1,←t2,hu,if_neg (by decide)]
  rw[hu,if_neg (by decide)]at ih
  unfold planS
  rw[hx,(hr p).1,List.any_cons,List.filterMap_cons,hpr,hfl]
  dsimp only
  by_cases hm:(preS tZ d.R base a).m (atK p)=0
  ·rw[if_pos hm]at ih
   rw[if_pos hm,if_pos hm,if_pos hm,ih _ _ hr]
   rfl
  ·rw[if_neg hm]at ih
   rw[if_neg hm,if_neg hm,if_neg hm]
   cases hv:tZ x ((preS tZ d.R base a).m (atK p)) with
   |none=>simp
   |some v=>
    rw[hv]at ih
    dsimp only at ih ⊢
    by_cases hd:(p.2:Int)<x.delay
    ·rw[if_pos hd,if_pos hd]
     simp
    ·rw[if_neg hd,if_neg hd,if_pos (show x.delay≤(p.2:Int) by omega),ih _ _ hr.add]
     dsimp only
     rw[Option.isSome_none,Bool.false_or,List.map_cons,List.append_assoc]
     rfl
end
open Go.Shelf Go.Sort Go.RowKit Go.WideMaps
theorem qG{α β:Type}(F:β→Int)(g:α→Option β): ∀l:List α,zF F (l.filterMap g)=zF (fun x=>match g x with|some y=>F y|none=>0) l
 |[]=>rfl
 |x::l=>by
  rw[List.filterMap_cons,zF]
  cases hg:g x with
  |none=>dsimp only;rw[qG F g l];omega
  |some y=>dsimp only;rw[zF,qG F g l]
theorem sum2_one{F H:Nat}{a0 h0:Int}(ha:0≤a0∧a0<F)(hh:0≤h0∧h0<H)(f:Nat→Nat→Int):
  zF (fun h:Nat=>zF (fun a:Nat=>if (a:Int)=a0∧(h:Int)=h0 then f h a else 0) (List.range F)) (List.range H)=f h0.toNat a0.toNat:=by
 have e: ∀h:Nat,zF (fun a:Nat=>if (a:Int)=a0∧(h:Int)=h0 then f h a else 0) (List.range F)=if (h:Int)=h0 then f h a0.toNat else 0:=fun h=>by
  have:=vT F a0 (fun a=>if (h:Int)=h0 then f h a else 0)
  rw[if_pos ha]at this
  rw[←this]
  refine yJ fun a _=>?_
  by_cases h1:(a:Int)=a0<;>by_cases h2:(h:Int)=h0<;>simp[h1,h2]
 rw[yJ fun h _=>e h,vT,if_pos hh]
theorem valK_ask{d:Dis}: ∀(out:List Ord') (f:BkF) (k:List KL),zV (out.foldl (fun f o=>vY f (K2 (vP d o.index) o.hour) o.litres) f) k=zV f k+zF (fun o=>if K2 (vP d o.index) o.hour=k then o.litres else 0) out
 |[],f,k=>by simp[zF]
 |o::out,f,k=>by
  rw[List.foldl_cons,valK_ask out,wD,zF]
  by_cases h:k=K2 (vP d o.index) o.hour
  ·rw[if_pos h,if_pos h.symm];omega
  ·rw[if_neg h,if_neg (fun e=>h e.symm)];omega
theorem valK_want{d:Dis}: ∀(C:List Clm) (f:BkF) (k:List KL),zV (C.foldl (kP d) f) k=zV f k+zF (fun c=>if K2 (vP d c.farm) c.hour=k then c.litres else 0) C
 |[],f,k=>by simp[zF]
 |c::C,f,k=>by
  rw[List.foldl_cons,valK_want C,zF]
  unfold kP
  rw[wD]
  by_cases h:k=K2 (vP d c.farm) c.hour
  ·rw[if_pos h,if_pos h.symm];omega
  ·rw[if_neg h,if_neg (fun e=>h e.symm)];omega
theorem wantV(d:Dis)(C:List Clm)(k:List KL):zV (vV d C) k=zF (fun c=>if K2 (vP d c.farm) c.hour=k then c.litres else 0) C:=by
 unfold vV
 rw[valK_want]
 simp[zV]
theorem sumCV(C:List Clm)(k:List KL):zV (qF C) k=zF (fun c=>if K2 c.farm c.hour=k then c.litres else 0) C:=by
 unfold qF
 rw[sumC_val]
 simp[zV]
theorem outs_sum(H F:Nat)(g:BkF)(G:Ord'→Int)(hG: ∀h a:Nat,zV g (K2 a h)=0→G (uA g h a)=0):
  zF G (outsL H F g)=zF (fun h:Nat=>zF (fun a:Nat=>G (uA g h a)) (List.range F)) (List.range H):=by
 unfold outsL
 rw[sumI_flatMap]
 refine yJ fun h _=>?_
 rw[qG]
 refine yJ fun a _=>?_
 cases hs:(g (K2 a h)).isSome with
 |true=>simp
 |false=>
  have h0:zV g (K2 a h)=0:=by
   cases hg:g (K2 a h) with
   |none=>unfold zV;rw[hg]
   |some y=>rw[hg]at hs;cases hs
  simp[hG h a h0]
theorem outC_sum{d:Dis}{C:List Clm}(hC: ∀c∈C,ClmOk d c)(P:Int→Int→Bool):
  zF (fun o=>if P o.index o.hour=true then o.litres else 0) (tL d C)=zF (fun c=>if P c.farm c.hour=true then c.litres else 0) C:=by
 unfold tL
 rw[outs_sum _ _ _ _ (fun h a h0=>by unfold uA;dsimp only;rw[h0];split<;>rfl)]
 have e: ∀h a:Nat,(if P (uA (qF C) h a).index (uA (qF C) h a).hour=true then (uA (qF C) h a).litres else 0)=zF (fun c:Clm=>if (a:Int)=c.farm∧(h:Int)=c.hour then (if P c.farm c.hour=true then c.litres else 0)else 0) C:=fun h a=>by
  unfold uA
  dsimp only
  rw[sumCV]
  cases hp:P a h with
  |false=>
   rw[if_neg (by decide)]
   refine(wY fun c _=>?_).symm
   by_cases hk:(a:Int)=c.farm∧(h:Int)=c.hour
   ·rw[if_pos hk,←hk.1,←hk.2,hp];rfl
   ·rw[if_neg hk]
  |true=>
   rw[if_pos rfl]
   refine yJ fun c _=>?_
   by_cases hk:(a:Int)=c.farm∧(h:Int)=c.hour
   ·rw[if_pos hk,if_pos (K2_inj.2 ⟨hk.1.symm,hk.2.symm⟩),←hk.1,←hk.2,hp];rfl
   ·rw[if_neg hk,if_neg (fun e=>hk ⟨(K2_inj.1 e).1.symm,(K2_inj.1 e).2.symm⟩)]
 rw[yJ (g:=fun h:Nat=>zF (fun c:Clm=>zF (fun a:Nat=>if (a:Int)=c.farm∧(h:Int)=c.hour then (if P c.farm c.hour=true then c.litres else 0)else 0) (List.range d.F.length)) C) (fun h _=>by
  rw[yJ fun a _=>e h a,sumI_swap])]
 rw[sumI_swap]
 refine yJ fun c hc=>?_
 have hk:=hC c hc
 obtain⟨a,ha1,ha2⟩:=hk.fm
 have hh:=hk.hr
 exact sum2_one (f:=fun _ _=>if P c.farm c.hour=true then c.litres else 0) (by omega) (by omega)
theorem ask_want{d:Dis}{C:List Clm}(hC: ∀c∈C,ClmOk d c)(k:List KL):zV (askF d (tL d C)) k=zV (vV d C) k:=by
 have h1:=outC_sum hC (fun a h=>decide (K2 (vP d a) h=k))
 simp only[decide_eq_true_eq]at h1
 rw[wantV,←h1]
 unfold askF
 rw[valK_ask]
 simp[zV]
theorem rel0{d:Dis}{C:List Clm}(hC: ∀c∈C,ClmOk d c):RelP (askF d (tL d C)) (fun _=>none) (preS tZ d.R (zV (vV d C)) []):=fun q=>⟨ask_want hC _,rfl⟩
theorem rel1(d:Dis)(C:List Clm):RelP (vV d C) (fun _=>none) (preS tZ d.R (zV (vV d C)) []):=fun q=>⟨rfl,rfl⟩
noncomputable def uK (d:Dis) (C:List Clm):SS:=lstT d (zV (vV d C))
noncomputable abbrev schedC (d:Dis) (C:List Clm):List Prc:=(yL d.R.length d.hours.toNat).filterMap (prcO d (uK d C))
theorem schedL_is{d:Dis}(hT:Tree d.R)(C:List Clm):tV d C=schedC d C:=sched_is hT _ [] _ _ rfl (rel1 d C)
theorem lateL_is{d:Dis}(hT:Tree d.R){C:List Clm}(hC: ∀c∈C,ClmOk d c):lateL d (tL d C)=(yL d.R.length d.hours.toNat).filterMap (fltO d (uK d C)):=late_is hT _ [] _ _ rfl (rel0 hC)
theorem planO_is{d:Dis}(hT:Tree d.R){C:List Clm}(hC: ∀c∈C,ClmOk d c):planO d (tL d C)=if (yL d.R.length d.hours.toNat).any (fun p=>(fltO d (uK d C) p).isSome)=true then none else some (tL d C++(schedC d C).map ordO):=plan_is hT _ [] _ _ rfl (rel0 hC)
theorem prc_kid{d:Dis}{T:SS}{p r:Pl}(hp:p.1<d.R.length):(match prcO d T p with|some q=>(if K2 (upR d q) q.hour=atK r then q.litres else 0)|none=>0)=if upK d.R p=atK r then con tZ d.R T p else 0:=by
 obtain⟨x,hx⟩:=vR hp
 unfold prcO con askV upK
 rw[hx]
 dsimp only
 by_cases hu:T.u (atK p)=true
 ·rw[if_pos hu,if_pos hu];dsimp only;split<;>rfl
 ·rw[if_neg hu,if_neg hu]
  by_cases hm:T.m (atK p)=0
  ·rw[if_pos hm,if_pos hm];dsimp only;split<;>rfl
  ·rw[if_neg hm,if_neg hm]
   cases hv:tZ x (T.m (atK p)) with
   |none=>dsimp only;simp
   |some v=>
    dsimp only
    by_cases hd:x.delay≤(p.2:Int)
    ·rw[if_pos hd]
     dsimp only
     unfold upR
     dsimp only
     rw[Int.toNat_natCast,hx]
     rfl
    ·rw[if_neg hd]
     dsimp only
     rw[if_neg (fun e=>atK_neg (q:=r) (a:=x.up) (b:=(p.2:Int)-x.delay) (by omega) e.symm)]
theorem sched_kids{d:Dis}(hT:Tree d.R)(base:MI)(r:Pl):base (atK r)+zF (fun q=>if K2 (upR d q) q.hour=atK r then q.litres else 0) ((yL d.R.length d.hours.toNat).filterMap (prcO d (lstT d base)))=(lstT d base).m (atK r):=by
 have e:=yJ (l:=yL d.R.length d.hours.toNat) fun p hp=>prc_kid (d:=d) (T:=lstT d base) (p:=p) (r:=r) (mem_pls.1 hp).1
 rw[qG]
 have e2:base (atK r)+zF (fun p=>if upK d.R p=atK r then con tZ d.R (lstT d base) p else 0) (yL d.R.length d.hours.toNat)=(lstT d base).m (atK r):=(lst_m hT (atK r)).symm
 rw[←e2,←e]
 congr 1
 refine yJ fun p _=>?_
 cases prcO d (lstT d base) p<;>rfl
theorem prc_of{d:Dis}{T:SS}{p:Pl}{q:Prc}(h:prcO d T p=some q): ∃x v,d.R[p.1]?=some x∧T.u (atK p)=false∧T.m (atK p)≠0∧tZ x (T.m (atK p))=some v∧x.delay≤(p.2:Int)∧q=⟨p.1,(p.2:Int)-x.delay,v,T.m (atK p)⟩:=by
 unfold prcO at h
 cases hx:d.R[p.1]? with
 |none=>rw[hx]at h;cases h
 |some x=>
  rw[hx]at h
  dsimp only at h
  by_cases hu:T.u (atK p)=true
  ·rw[if_pos hu]at h;cases h
  ·rw[if_neg hu]at h
   by_cases hm:T.m (atK p)=0
   ·rw[if_pos hm]at h;cases h
   ·rw[if_neg hm]at h
    cases hv:tZ x (T.m (atK p)) with
    |none=>rw[hv]at h;cases h
    |some v=>
     rw[hv]at h
     dsimp only at h
     by_cases hd:x.delay≤(p.2:Int)
     ·rw[if_pos hd]at h
      cases h
      exact⟨x,v,rfl,by simpa using hu,hm,hv,hd,rfl⟩
     ·rw[if_neg hd]at h;cases h
theorem flt_of{d:Dis}{T:SS}{p:Pl}{f:Flt}(h:fltO d T p=some f): ∃x,d.R[p.1]?=some x∧T.u (atK p)=false∧T.m (atK p)≠0∧(tZ x (T.m (atK p))=none∨(p.2:Int)<x.delay)∧f=⟨7,p.2,p.1,T.m (atK p),0⟩:=by
 unfold fltO at h
 cases hx:d.R[p.1]? with
 |none=>rw[hx]at h;cases h
 |some x=>
  rw[hx]at h
  dsimp only at h
  by_cases hu:T.u (atK p)=true
  ·rw[if_pos hu]at h;cases h
  ·rw[if_neg hu]at h
   by_cases hm:T.m (atK p)=0
   ·rw[if_pos hm]at h;cases h
   ·rw[if_neg hm]at h
    cases hv:tZ x (T.m (atK p)) with
    |none=>
     rw[hv]at h
     cases h
     exact⟨x,rfl,by simpa using hu,hm,.inl hv,rfl⟩
    |some v=>
     rw[hv]at h
     dsimp only at h
     by_cases hd:(p.2:Int)<x.delay
     ·rw[if_pos hd]at h
      cases h
      exact⟨x,rfl,by simpa using hu,hm,.inr hd,rfl⟩
     ·rw[if_neg hd]at h;cases h
open Go.Shelf Go.Sort Go.RowKit Go.WideMaps
theorem find_at{α:Type}{p:α→Bool}: ∀{l:List α} {k:Nat} {x:α},(∀i y,i<k→l[i]?=some y→p y=false)→l[k]?=some x→p x=true→l.find? p=some x
 |[],k,x,_,h,_=>by simp at h
 |a::l,0,x,_,h,hp=>by
  simp at h
  subst h
  rw[List.find?_cons_of_pos hp]
 |a::l,k+1,x,hb,h,hp=>by
  have h0:=hb 0 a (Nat.succ_pos _) rfl
  rw[List.find?_cons_of_neg (by rw[h0];decide)]
  exact find_at (fun i y hi hy=>hb (i+1) y (Nat.succ_lt_succ hi) (by simpa using hy)) (by simpa using h) hp
theorem open_zero{d:Dis}{l:List Ded}{frm to known:Int}(h:tQ d l frm to known=0):ofE d l frm to known=0∧(yH d (kK d l frm to known)).2.2=0∧(uG ((kK d l frm to known).map Clm.right)).length≤10:=by
 unfold tQ at h
 split at h
 ·rename_i h1;exact absurd h h1
 ·rename_i h1
  split at h
  ·rename_i h2;exact absurd h h2
  ·rename_i h2
   split at h
   ·cases h
   ·exact⟨by omega,by omega,by omega⟩
theorem solve_wide{d:Dis}{C:List Clm}(h:(yH d C).2.2=0):pN d C=0∧(d.R.length:Int)*d.hours≤1024:=by
 have h1:pN d C=0:=by
  unfold yH at h
  split at h
  ·exact h
  ·omega
 refine⟨h1,?_⟩
 unfold pN at h1
 split at h1
 ·cases h1
 ·omega
theorem why_c(d:Dis)(l:List Ded)(frm to known:Int)(σ:List Ent):
  SCall prog 8 [disV d,deds l,.int .i64 frm,.int .i64 to,.int .i64 known] σ (Is (.tup [rfV (pB d l frm to known).1,.bool (pB d l frm to known).2.1,.int .i64 (pB d l frm to known).2.2]) σ):=by
 refine zZ func8 rfl (by simp) ?_
 have co:=fun σ=>openS_c d l frm to known σ
 unfold pB
 by_cases h0:tQ d l frm to known≠0
 ·rw[if_pos h0]
  rw[if_neg h0]at co
  generalize tQ d l frm to known=e at h0 co ⊢
  repeat' first|(apply yQ;exact zD;rfl;rfl;refine zL ?_;exact co _)|(refine xV ?_;and_intros<;>first|exact nl|intros)|fail
  all_goals
   refine zS (σ3:=σ) .nil zG zJ ?_
   exact xK (sz:=1) (.tup (.agg (.here (.same (.same (.same (.same .nil))))) (.same (.same .nil))) .nil) (xK (sz:=4) (.tup (.agg (.same (.same (.same (.same (.here .nil))))) (.same (.same .nil))) .nil) (zY .mk))
 rw[if_neg h0]
 have h0':tQ d l frm to known=0:=by omega
 rw[if_pos h0',h0']at co
 obtain⟨k1,k2,k3⟩:=open_zero h0'
 have hd:=ofL_dis k1
 have hC:=of_ok k1
 have hCl:=hC.len
 have hW:=(solve_wide k2).2
 clear h0 h0' k1 k2
 generalize kK d l frm to known=C at co hC hCl k3 ⊢
 have cm:=fun σ=>make_c d hd C hC σ
 by_cases h1:xU d C=true
 ·rw[if_pos h1]
  rw[h1]at cm
  clear hd hC hW k3
  repeat' first|(apply yQ;exact zD;rfl;rfl;refine zL ?_;first|exact co _|exact cm _)|(refine xV ?_;and_intros<;>first|exact nl|intros)|fail
  all_goals
   refine zS (σ3:=σ) .nil zG zJ ?_
   exact xK (sz:=1) (.tup (.agg (.here (.same (.same (.same (.same .nil))))) (.same (.same .nil))) .nil) (xK (sz:=4) (.tup (.agg (.same (.same (.same (.same (.here .nil))))) (.same (.same .nil))) .nil) (zY .mk))
 rw[if_neg h1]
 have h1':xU d C=false:=by cases h:xU d C<;>simp_all
 rw[h1']at cm
 have cr:=fun σ=>rights_c d C (by omega) σ
 have hall:=ownC_all C
 have hfr:jZ d C=((setsL (uG (C.map Clm.right))).find? fun rs=>!xU d (vZ rs C)).getD []:=rfl
 have hself:=setsL_self (uG (C.map Clm.right))
 have hsub:=fun x=>setsL_sub (l:=uG (C.map Clm.right)) (x:=x)
 have hY:=fun b=>sets1_c (uG (C.map Clm.right)) (by omega) b
 have cs:=fun σ=>sets_c (uG (C.map Clm.right)) σ
 generalize uG (C.map Clm.right)=rs at cr hall hfr hself hsub k3 hY cs
 generalize jZ d C=FR at hfr ⊢
 clear h1
 repeat' first|(show EX _ _ (Code.seq (Code.region 7 _ _) _) _ _;refine Stuck.out ?_)|(refine vW ?_;intros)|(apply yQ;exact zD;rfl;rfl;refine zL ?_;first|exact co _|exact cm _)|(refine yV ?_ ?_<;>(intro z;cases z with|_ h)<;>intro hp)|exact nl|fail
 all_goals try refine Stuck.mk ?_
 rename Nat=>b13;revert b13;rename Nat=>b10;revert b10;rename Nat=>b5;revert b5
 intro b5 b10 b13
 refine yS (s':=⟨[(5,.ptr b5 0),(10,.ptr b10 0),(13,.ptr b13 0)],.cells b13 (scnC d C) 77::.cells b10 [cA (.slice none 0 0),.int .i64 0,.int .i64 0,.int .i64 0,cA (.slice none 0 0)] 48::.cells b5 (disC d) 31::σ,[],f8.ntmps⟩) (St.le_of zC yY) ?_
 clear co cm
 repeat' first|(refine xD (.call {callee:=.value (.func 23),args:=_,argTypes:=_}) ?_;refine zK rfl rfl rfl (zQ rfl rfl (zX (by kernel_rfl)) (cs _)) ?_;rintro _ _ ⟨bS,rfl,rfl⟩)|(refine yX ?_;intros)|(apply yQ;exact zD;rfl;rfl;refine zL ?_;exact cr _)|fail
 rename Nat=>bS;revert bS;rename Nat=>b17;revert b17
 intro b17 bS
 clear cs cr
 have hY:=hY bS
 refine yS (s':=⟨[(5,.ptr b5 0),(10,.ptr b10 0),(13,.ptr b13 0),(17,.ptr b17 0),(50,.fn (.func 66) [] [.ptr bS 0])],.cells bS [ints rs] 45::.cells b17 z0C 77::.cells b13 (scnC d C) 77::.cells b10 [cA (.slice none 0 0),.int .i64 0,.int .i64 0,.int .i64 0,cA (.slice none 0 0)] 48::.cells b5 (disC d) 31::σ,[],f8.ntmps⟩) (St.le_of zC yY) ?_
 refine pY rfl (zX (by kernel_rfl)) ?_
 intro D l0 fn
 show SCall _ _ _ (Ent.loop _ _ _ _ ?ee ?nn ?ps ?asg ?body _::_) _
 obtain⟨Lp,hL⟩: ∃L,L=Ent.loop l0 .ready none fn ?ee ?nn ?ps ?asg ?body D:=⟨_,rfl⟩
 obtain⟨L2,hL2⟩: ∃L2,L2=Ent.loop l0 .done (some (.exit 0)) fn ?ee ?nn ?ps ?asg ?body D:=⟨_,rfl⟩
 rw[←hL]
 refine SCall.mono (hY l0 _ (fun k τ=>(∀i y,i<k→(setsL rs)[i]?=some y→(!xU d (vZ y C))=false)∧ ∃X,(X=z0C∨ ∃y,X=scnC d (vZ y C))∧τ=Lp::.obj D (.deferred (some []))::.cells bS [ints rs] 45::.cells b17 X 77::.cells b13 (scnC d C) 77::.cells b10 [cA (.slice none 0 0),.int .i64 0,.int .i64 0,.int .i64 0,cA (.slice none 0 0)] 48::.cells b5 (disC d) 31::σ) (fun τ=>FR.length≤10∧ ∃v,τ=.row v 3 1 (FR.map intC)::L2::.obj D (.deferred (some []))::.cells bS [ints rs] 45::.cells b17 (scnC d (vZ FR C)) 77::.cells b13 (scnC d C) 77::.cells b10 [.slv v,.int .i64 0,.int .i64 0,.int .i64 0,cA (.slice none 0 0)] 48::.cells b5 (disC d) 31::σ) ?_ ?_ ⟨(fun i y h=>absurd h (Nat.not_lt_zero _)),z0C,.inl rfl,rfl⟩) ?_
 ·rintro k τ ⟨_,X,_,rfl⟩
  simp
 ·rintro k x τ hx ⟨hbf,X,hX,rfl⟩
  obtain⟨y,hy,rfl⟩: ∃y,(setsL rs)[k]?=some y∧x=[ints y]:=by
   rw[List.getElem?_map]at hx
   cases hc:(setsL rs)[k]? with
   |none=>rw[hc]at hx;cases hx
   |some c=>rw[hc]at hx;cases hx;exact⟨c,rfl,rfl⟩
  have hyl:y.length≤10:=Nat.le_trans (hsub y (List.mem_of_getElem? hy)).length_le k3
  have cf:=fun σ=>ofS_c d C (by omega) y (by omega) σ
  have cm:=fun σ=>make_c d hd (vZ y C) (ownC_ok hC y) σ
  have ck:=fun σ=>cloneI_c y (by omega) σ
  have hnx:xU d (vZ y C)=true→ ∀i z,i<k+1→(setsL rs)[i]?=some z→(!xU d (vZ z C))=false:=fun hm i z hi hz=>by
   rcases Nat.lt_or_ge i k with h|h
   ·exact hbf i z h hz
   ·obtain rfl:i=k:=by omega
    rw[hy]at hz
    cases hz
    rw[hm];rfl
  have hFR:xU d (vZ y C)=false→FR=y:=fun hm=>by
   rw[hfr,find_at hbf hy (by rw[hm];rfl)]
   rfl
  clear hY hx hself hsub hfr hbf hy hall hC hd
  generalize xU d (vZ y C)=mk at cm hnx hFR
  rw[hL]
  refine SRound.sub ?_
  rcases hX with rfl|⟨y0,rfl⟩
  all_goals
   refine sround yP rfl (by decide) ?_
   cases mk
  all_goals
   repeat' first|(refine xD (.call {callee:=.value (.func 26),args:=_,argTypes:=_}) ?_;refine zK rfl rfl rfl (zQ rfl rfl (zX (by kernel_rfl)) (ck _)) ?_;rintro _ _ ⟨v,rfl,rfl⟩)|(refine yX ?_;intros)|(apply yQ;exact zD;rfl;rfl;refine zL ?_;first|exact cf _|exact cm _)|(refine yV ?_ ?_<;>(intro z;cases z with|_ h)<;>intro hp)|exact nl|fail
  all_goals
   subst hL hL2
   first
    |exact⟨_,List.Sublist.refl _,.inl ⟨rfl,hnx rfl,_,.inr ⟨y,rfl⟩,rfl⟩⟩
    |(have e:=hFR rfl;subst e;exact⟨_,List.Sublist.refl _,.inr ⟨rfl,hyl,v,rfl⟩⟩)
 ·rintro r τ (⟨hbf,X,hX,rfl⟩|⟨hFl,v,rfl⟩)
  ·exfalso
   obtain⟨i,hi⟩:=List.mem_iff_getElem?.1 hself
   have h2:=hbf i rs (by rw[List.length_map];exact qZ hi) hi
   rw[hall,h1']at h2
   cases h2
  ·rw[hL2]
   refine RangeEnd.jump (.there .here) ?_
   have hoC:=ownC_ok hC FR
   have hoL:=hoC.len
   have cl:=fun σ=>limit_c d hd (vZ FR C) hoC σ
   have csd:=fun σ=>schedule_c d hd hW (vZ FR C) hoL hoC.ok σ
   have hR:=(yC (zP hd).1).1
   have cbl:=fun σ=>belongs_c d hR (vZ FR C) (yH d (vZ FR C)).2.1 (solve_in hd _) (tV d (vZ FR C)) (sched_len hW _) (sched_fit hd _) (sched_inj d _) σ
   unfold refOf
   generalize (yH d (vZ FR C)).2.1=f at cl cbl ⊢
   generalize (yH d (vZ FR C)).2.2=e at cl ⊢
   generalize tV d (vZ FR C)=PL at csd cbl ⊢
   generalize belL d f PL=BL at cbl ⊢
   generalize vZ FR C=oC at cl csd cbl ⊢
   clear hY hself hsub hfr hall hd hC hoC
   repeat' first|(show EX _ _ (Code.seq (Code.region 15 _ _) _) _ _;refine Stuck.out ?_)|(refine vW ?_;intros)|(apply yQ;exact zD;rfl;rfl;refine zL ?_;exact cl _)|fail
   all_goals try refine Stuck.mk ?_
   rename Nat=>b22;revert b22
   intro b22
   refine yS (s':=⟨[(10,.ptr b10 0),(17,.ptr b17 0),(22,.ptr b22 0)],.cells b22 (fltC f) 73::.row v 3 1 (FR.map intC)::.obj D (.deferred (some []))::.cells b17 (scnC d oC) 77::.cells b10 [.slv v,.int .i64 0,.int .i64 0,.int .i64 0,cA (.slice none 0 0)] 48::σ,[D],f8.ntmps⟩) (St.le_of zC yY) ?_
   clear cl
   refine yW ?_;intros
   refine wH (fun x=>x=.cells b22 (fltC f) 73∨x=.cells b17 (scnC d oC) 77) [12,14,16,18] rfl rfl ?_
   repeat' first|(refine zB ?_;intros)|(apply zvI;exact zD;rfl;intro σ' hl;first|((exact zQ rfl rfl (zX (by kernel_rfl)) (csd _)))|((exact zQ rfl rfl (zX (by kernel_rfl)) (cbl _))))|(refine xB ?_;intros)|fail
   all_goals
    refine zS (σ3:=.row v 3 1 (FR.map intC)::σ) zmr zG zJ ?_
    exact xS .here (.tup (.agg (.here (.same (.same (.same (.same .nil))))) (.same (.same .nil))) .nil) (zY .mk)
end Go.Proofs.YtaoaafdommlhcaaGreat
