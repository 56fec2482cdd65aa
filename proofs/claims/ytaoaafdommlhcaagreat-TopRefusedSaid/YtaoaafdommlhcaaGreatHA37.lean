/- Parts of the proof that belong together: Ih Me Mf. -/
import Derived.Test.YtaoaafdommlhcaaGreatHA30
import Derived.Test.YtaoaafdommlhcaaGreatHA34
import Derived.Test.YtaoaafdommlhcaaGreatHA36
set_option maxRecDepth 10000
set_option linter.unusedSimpArgs false
set_option linter.unusedVariables false
set_option autoImplicit false
open Go.Proofs.Tryz
namespace Go.Proofs.YtaoaafdommlhcaaGreat
def readE(d:Dis)(l:List Ord'):Int:=if 1024<(d.R.length:Int)*d.hours∨(4096:Int)<l.length then 2 else if tA d l≠0 then 280 else 0
def atR(d:Dis)(o:Ord'):Int:=if o.outlet=true then vP d o.index else match d.R[o.index.toNat]? with
 |some x=>x.up
 |none=> -1
def vA(d:Dis)(l:List Ord')(r h:Nat):Int:=zF (fun o=>if atR d o=r∧o.hour=h then o.litres else 0) l
structure SumsOk(R N:Nat)(f:BkF)(M:Mtx):Prop where
 len:M.length=R
 row: ∀r,r<R→ ∃v L,M[r]?=some (v,L)∧L.length=N+1∧L[0]?=some 0∧ ∀k,k<N→L[k+1]?=some (zV f (K3 k r false))
structure DrawOk(R N:Nat)(g:Nat→Nat→Int)(M:Mtx):Prop where
 len:M.length=R
 row: ∀r,r<R→ ∃v L,M[r]?=some (v,L)∧L.length=N∧ ∀k,k<N→L[k]?=some (g r k)
theorem SumsOk.set{R N:Nat}{f:BkF}{M:Mtx}(h:SumsOk R N f M){i t:Nat}{v:Value}{L:List Int}(hi:M[i]?=some (v,L))(ht:t<N)(n:Int):SumsOk R N (xN f (K3 t i false) (.i n)) (M.set i (v,L.set (t+1) n)):=by
 refine⟨by rw[List.length_set,h.len],fun r hr=>?_⟩
 obtain⟨w,K,h1,h2,h3,h4⟩:=h.row r hr
 by_cases e:i=r
 ·subst e
  rw[hi]at h1
  cases h1
  refine⟨v,L.set (t+1) n,by rw[List.getElem?_set_self (qZ hi)],by rw[List.length_set,h2],?_,fun k hk=>?_⟩
  ·rw[List.getElem?_set,if_neg (by omega)];exact h3
  ·rw[List.getElem?_set,pJ]
   by_cases hk2:t+1=k+1
   ·obtain rfl:t=k:=by omega
    rw[if_pos rfl,if_pos (by omega),if_pos rfl]
   ·rw[if_neg hk2,if_neg (fun e=>by have:=(K3_inj.1 e).1;omega)]
    exact h4 k hk
 ·refine⟨w,K,by rw[List.getElem?_set,if_neg e];exact h1,h2,h3,fun k hk=>?_⟩
  rw[pJ,if_neg (fun e2=>by have:=(K3_inj.1 e2).2.1;omega)]
  exact h4 k hk
theorem SumsOk.keep{R N:Nat}{f:BkF}{M:Mtx}(h:SumsOk R N f M)(t a:Int)(n:Int):SumsOk R N (xN f (K3 t a true) (.i n)) M:=by
 refine⟨h.len,fun r hr=>?_⟩
 obtain⟨w,K,h1,h2,h3,h4⟩:=h.row r hr
 refine⟨w,K,h1,h2,h3,fun k hk=>?_⟩
 rw[pJ,if_neg (fun e=>by have:=(K3_inj.1 e).2.2;cases this)]
 exact h4 k hk
theorem DrawOk.add{R N:Nat}{g g':Nat→Nat→Int}{M:Mtx}(h:DrawOk R N g M){i t:Nat}{v:Value}{L:List Int}(hi:M[i]?=some (v,L))(n:Int)(hg: ∀r k,g' r k=g r k+if r=i∧k=t then n else 0)(ht:t<N)(hir:i<R):DrawOk R N g' (M.set i (v,L.set t (g i t+n))):=by
 refine⟨by rw[List.length_set,h.len],fun r hr=>?_⟩
 obtain⟨w,K,h1,h2,h3⟩:=h.row r hr
 by_cases e:i=r
 ·subst e
  rw[hi]at h1
  cases h1
  refine⟨v,L.set t (g i t+n),by rw[List.getElem?_set_self (qZ hi)],by rw[List.length_set,h2],fun k hk=>?_⟩
  rw[List.getElem?_set,hg]
  by_cases hk2:t=k
  ·subst hk2
   rw[if_pos rfl,if_pos (by omega),if_pos ⟨rfl,rfl⟩]
  ·rw[if_neg hk2,if_neg (fun e=>hk2 e.2.symm),Int.add_zero]
   exact h3 k hk
 ·refine⟨w,K,by rw[List.getElem?_set,if_neg e];exact h1,h2,fun k hk=>?_⟩
  rw[hg,if_neg (fun e2=>e e2.1.symm),Int.add_zero]
  exact h3 k hk
theorem DrawOk.same{R N:Nat}{g g':Nat→Nat→Int}{M:Mtx}(h:DrawOk R N g M)(hg: ∀r k,r<R→k<N→g' r k=g r k):DrawOk R N g' M:=by
 refine⟨h.len,fun r hr=>?_⟩
 obtain⟨w,K,h1,h2,h3⟩:=h.row r hr
 exact⟨w,K,h1,h2,fun k hk=>by rw[hg r k hr hk];exact h3 k hk⟩
theorem sums_zero{R N:Nat}{M:Mtx}(hl:M.length=R)(h: ∀q∈M,q.2=List.replicate (N+1) 0):SumsOk R N (fun _=>none) M:=by
 refine⟨hl,fun r hr=>?_⟩
 obtain⟨⟨v,L⟩,hq⟩:=zH (show r<M.length by omega)
 have e:L=List.replicate (N+1) 0:=h _ (List.mem_of_getElem? hq)
 subst e
 exact⟨v,_,hq,by simp,by simp,fun k hk=>by rw[List.getElem?_replicate,if_pos (by omega)];rfl⟩
theorem draw_zero{R N:Nat}{M:Mtx}(hl:M.length=R)(h: ∀q∈M,q.2=List.replicate N 0):DrawOk R N (fun _ _=>0) M:=by
 refine⟨hl,fun r hr=>?_⟩
 obtain⟨⟨v,L⟩,hq⟩:=zH (show r<M.length by omega)
 have e:L=List.replicate N 0:=h _ (List.mem_of_getElem? hq)
 subst e
 exact⟨v,_,hq,by simp,fun k hk=>by rw[List.getElem?_replicate,if_pos hk]⟩
theorem drawF_take{d:Dis}{l:List Ord'}{k:Nat}{o:Ord'}(h:l[k]?=some o)(r t:Nat):vA d (l.take (k+1)) r t=vA d (l.take k) r t+if atR d o=r∧o.hour=t then o.litres else 0:=by
 unfold vA
 rw[List.take_add_one,h,vQ]
 simp only[Option.toList_some,zF,Int.add_zero]
theorem drawF_le{d:Dis}: ∀{l:List Ord'},(∀o∈l,0≤o.litres∧o.litres≤1073741824)→ ∀r t:Nat,0≤vA d l r t∧vA d l r t≤l.length*1073741824
 |[],_,_,_=>by simp[vA,zF]
 |o::l,h,r,t=>by
  have h1:=h o (by simp)
  have h2:=drawF_le (d:=d) (l:=l) (fun x hx=>h x (by simp[hx])) r t
  unfold vA at *
  rw[zF,List.length_cons]
  have:((l.length+1:Nat):Int)=(l.length:Int)+1:=by omega
  split<;>omega
def vD(f:BkF)(r:Nat):Nat→Int
 |0=>0
 |h+1=>vD f r h+zV f (K3 h r false)
theorem sumG_le{f:BkF}(hf: ∀q,0≤zV f q∧zV f q≤1073741824)(r:Nat): ∀h:Nat,0≤vD f r h∧vD f r h≤h*1073741824
 |0=>by simp[vD]
 |h+1=>by
  have h1:=sumG_le hf r h
  have h2:=hf (K3 h r false)
  unfold vD
  omega
abbrev mxR(M:Mtx)(i:Nat)(σ:List Ent):List Ent:=xY (M.take i)++(xY (M.drop (i+1))++σ)
abbrev mxE(q:Value×List Int):Ent:=.row q.1 3 1 (q.2.map intC)
theorem pull2{M2:Mtx}{j:Nat}{q:Value×List Int}(h:M2[j]?=some q)(A:List Ent)(M1:Mtx)(σ:List Ent):(A++(xY M1++(xY M2++σ))).Perm (mxE q::(A++(xY M1++mxR M2 j σ))):=by
 have h1:=rows_pull h σ
 have h2:(A++(xY M1++(xY M2++σ))).Perm (A++(xY M1++(mxE q::mxR M2 j σ))):=(h1.append_left (xY M1)).append_left A
 refine h2.trans ?_
 have h3:=List.perm_middle (a:=mxE q) (l₁:=A++xY M1) (l₂:=mxR M2 j σ)
 simpa only [List.append_assoc]using h3
theorem push2{M2:Mtx}{j:Nat}{q:Value×List Int}(h:M2[j]?=some q)(L:List Int)(A:List Ent)(M1:Mtx)(σ:List Ent):(mxE (q.1,L)::(A++(xY M1++mxR M2 j σ))).Perm (A++(xY M1++(xY (M2.set j (q.1,L))++σ))):=by
 have h1:=rows_push h L σ
 have h2:(A++(xY M1++(mxE (q.1,L)::mxR M2 j σ))).Perm (A++(xY M1++(xY (M2.set j (q.1,L))++σ))):=(h1.append_left (xY M1)).append_left A
 refine List.Perm.trans ?_ h2
 have h3:=(List.perm_middle (a:=mxE (q.1,L)) (l₁:=A++xY M1) (l₂:=mxR M2 j σ)).symm
 simpa only [List.append_assoc]using h3
theorem pull1{M1:Mtx}{i:Nat}{q:Value×List Int}(h:M1[i]?=some q)(A:List Ent)(τ:List Ent):(A++(xY M1++τ)).Perm (mxE q::(A++mxR M1 i τ)):=by
 have h1:=rows_pull h τ
 exact(h1.append_left A).trans List.perm_middle
theorem push1{M1:Mtx}{i:Nat}{q:Value×List Int}(h:M1[i]?=some q)(L:List Int)(A:List Ent)(τ:List Ent):(mxE (q.1,L)::(A++mxR M1 i τ)).Perm (A++(xY (M1.set i (q.1,L))++τ)):=by
 have h1:=rows_push h L τ
 exact List.perm_middle.symm.trans (h1.append_left A)
theorem pull12{M1 M2:Mtx}{i j:Nat}{q p:Value×List Int}(h1:M1[i]?=some q)(h2:M2[j]?=some p)(A σ:List Ent):(A++(xY M1++(xY M2++σ))).Perm (mxE q::mxE p::(A++mxR M1 i (mxR M2 j σ))):=by
 refine(pull2 h2 A M1 σ).trans ?_
 exact(List.Perm.cons _ (pull1 h1 A (mxR M2 j σ))).trans (.swap _ _ _)
theorem push12{M1 M2:Mtx}{i j:Nat}{q p:Value×List Int}(h1:M1[i]?=some q)(h2:M2[j]?=some p)(L K:List Int)(A σ:List Ent):(mxE (q.1,L)::mxE (p.1,K)::(A++mxR M1 i (mxR M2 j σ))).Perm (A++(xY (M1.set i (q.1,L))++(xY (M2.set j (p.1,K))++σ))):=by
 refine List.Perm.trans (.swap _ _ _) ?_
 exact(List.Perm.cons _ (push1 h1 L A (mxR M2 j σ))).trans (push2 h2 K A _ σ)
open Go.Shelf Go.Sort Go.RowKit Go.WideMaps
abbrev oK(o:Ord'):List KL:=K3 o.hour o.index o.outlet
theorem oK_ne{a b:Ord'}(h:pF (yF a) (yF b)=true):oK a≠oK b:=fun e=>by
 obtain⟨e1,e2,e3⟩:=K3_inj.1 e
 simp[yF,pF,e1,e2,e3]at h
theorem lit_fold{k:List KL}: ∀(L:List Ord') (f:BkF),(L.Pairwise fun a b=>oK a≠oK b)→(∀o∈L,oK o=k→zV f k=0)→
  zV (L.foldl (fun f o=>xN f (K3 o.hour o.index o.outlet) (.i o.litres)) f) k=zV f k+zF (fun o=>if oK o=k then o.litres else 0) L
 |[],f,_,_=>by simp[zF]
 |o::L,f,hp,h0=>by
  obtain⟨h1,h2⟩:=List.pairwise_cons.1 hp
  rw[List.foldl_cons,lit_fold L _ h2 (fun x hx e=>by
   rw[pJ,if_neg (fun e2=>h1 x hx (e2.symm.trans e.symm))]
   exact h0 x (by simp[hx]) e),pJ,zF]
  by_cases e:k=K3 o.hour o.index o.outlet
  ·rw[if_pos e,if_pos e.symm,h0 o (by simp) e.symm]
   omega
  ·rw[if_neg e,if_neg (fun e2=>e e2.symm)]
   omega
theorem lit_sum{L:List Ord'}(hp:L.Pairwise fun a b=>pF (yF a) (yF b)=true)(k:List KL):zV (xJ L) k=zF (fun o=>if oK o=k then o.litres else 0) L:=by
 unfold xJ
 rw[lit_fold L _ (hp.imp oK_ne) (fun _ _ _=>rfl)]
 simp[zV]
theorem lit_gate: ∀(L:List Ord') (f g:BkF),(∀i h:Int,zV f (K3 h i false)=zV g (K2 i h))→ ∀i h:Int,zV (L.foldl (fun f o=>xN f (K3 o.hour o.index o.outlet) (.i o.litres)) f) (K3 h i false)=zV (L.foldl uW g) (K2 i h)
 |[],f,g,hfg,i,h=>hfg i h
 |o::L,f,g,hfg,i,h=>by
  rw[List.foldl_cons,List.foldl_cons]
  refine lit_gate L _ _ (fun i h=>?_) i h
  unfold uW
  rw[pJ]
  cases ho:o.outlet with
  |true=>rw[if_neg (fun e=>by have:=(K3_inj.1 e).2.2;cases this),if_pos rfl];exact hfg i h
  |false=>
   rw[if_neg Bool.false_ne_true,pJ]
   by_cases e:i=o.index∧h=o.hour
   ·rw[if_pos (K3_inj.2 ⟨e.2,e.1,rfl⟩),if_pos (K2_inj.2 e)]
   ·rw[if_neg (fun e2=>e ⟨(K3_inj.1 e2).2.1,(K3_inj.1 e2).1⟩),if_neg (fun e2=>e (K2_inj.1 e2))];exact hfg i h
theorem gate_lit(L:List Ord')(i h:Int):zV (kD L) (K2 i h)=zV (xJ L) (K3 h i false):=(lit_gate L (fun _=>none) (fun _=>none) (fun _ _=>rfl) i h).symm
theorem gate_mem: ∀(L:List Ord') (g:BkF) (i h:Int),zV (L.foldl uW g) (K2 i h)=zV g (K2 i h)∨ ∃o∈L,o.outlet=false∧o.index=i∧o.hour=h∧zV (L.foldl uW g) (K2 i h)=o.litres
 |[],g,i,h=>.inl rfl
 |o::L,g,i,h=>by
  rw[List.foldl_cons]
  rcases gate_mem L (uW g o) i h with h1|⟨x,hx,h1⟩
  ·cases ho:o.outlet with
   |true=>
    left
    rw[h1]
    unfold uW
    rw[ho,if_pos rfl]
   |false=>
    have e0:uW g o=xN g (K2 o.index o.hour) (.i o.litres):=by unfold uW;rw[ho,if_neg (by decide)]
    rw[e0,pJ]at h1
    by_cases e:K2 i h=K2 o.index o.hour
    ·right
     rw[if_pos e]at h1
     obtain⟨e1,e2⟩:=K2_inj.1 e
     exact⟨o,by simp,ho,e1.symm,e2.symm,by rw[e0];exact h1⟩
    ·left
     rw[if_neg e]at h1
     rw[e0];exact h1
  ·right
   exact⟨x,by simp[hx],h1⟩
theorem gateF_mem(L:List Ord')(i h:Int):zV (kD L) (K2 i h)=0∨ ∃o∈L,o.outlet=false∧o.index=i∧o.hour=h∧zV (kD L) (K2 i h)=o.litres:=gate_mem L (fun _=>none) i h
theorem lit_mem{L:List Ord'}(hp:L.Pairwise fun a b=>pF (yF a) (yF b)=true)(hl: ∀o∈L,0≤o.litres){o:Ord'}(ho:o∈L):o.litres≤zV (xJ L) (oK o):=by
 rw[lit_sum hp]
 have:=qH (f:=fun x:Ord'=>if oK x=oK o then x.litres else 0) (l:=L) (fun x hx=>by
  have:=hl x hx
  split<;>omega) o ho
 simpa using this
theorem draw_split{d:Dis}{L:List Ord'}(hp:L.Pairwise fun a b=>pF (yF a) (yF b)=true)(hb: ∀o∈L,kL d o=true)(r h:Nat):
  vA d L r h=zF (fun a:Nat=>if vP d a=r then zV (xJ L) (K3 h a true)else 0) (List.range d.F.length)+kidS d.R (fun c k=>zV (xJ L) (K3 k c false)) r h:=by
 unfold kidS
 have e1: ∀a:Nat,(if vP d a=r then zV (xJ L) (K3 h a true)else 0)=zF (fun o:Ord'=>if vP d a=r then (if oK o=K3 h a true then o.litres else 0)else 0) L:=fun a=>by
  rw[lit_sum hp]
  split
  ·rfl
  ·exact(wY fun _ _=>rfl).symm
 have e2: ∀c:Nat,(match d.R[c]? with|some x=>(if x.up=(r:Int)then zV (xJ L) (K3 h c false)else 0)|none=>0)=zF (fun o:Ord'=>match d.R[c]? with|some x=>(if x.up=(r:Int)then (if oK o=K3 h c false then o.litres else 0)else 0)|none=>0) L:=fun c=>by
  cases hx:d.R[c]? with
  |none=>exact(wY fun _ _=>rfl).symm
  |some x=>
   dsimp only
   rw[lit_sum hp]
   split
   ·rfl
   ·exact(wY fun _ _=>rfl).symm
 change vA d L r h=_+zF (fun c:Nat=>match d.R[c]? with|some x=>(if x.up=(r:Int)then zV (xJ L) (K3 h c false)else 0)|none=>0) (List.range d.R.length)
 rw[yJ fun a _=>e1 a,yJ fun c _=>e2 c,sumI_swap _ (List.range d.F.length) L,sumI_swap _ (List.range d.R.length) L,←sumI_add]
 unfold vA
 refine yJ fun o ho=>?_
 have hbo:=hb o ho
 unfold kL at hbo
 simp only[Bool.and_eq_true,decide_eq_true_eq]at hbo
 obtain⟨⟨⟨⟨⟨hh0,hh1⟩,hi0⟩,hi1⟩,hl0⟩,hl1⟩:=hbo
 cases hout:o.outlet with
 |true=>
  rw[hout,if_pos rfl]at hi1
  have z2:zF (fun c:Nat=>match d.R[c]? with|some x=>(if x.up=(r:Int)then (if oK o=K3 h c false then o.litres else 0)else 0)|none=>0) (List.range d.R.length)=0:=wY fun c _=>by
   cases d.R[c]? with
   |none=>rfl
   |some x=>
    dsimp only
    rw[if_neg (c:=oK o=K3 h c false) (fun e=>by have:=(K3_inj.1 e).2.2;rw[hout]at this;cases this)]
    split<;>rfl
  rw[z2,Int.add_zero]
  have z1:zF (fun a:Nat=>if vP d a=r then (if oK o=K3 h a true then o.litres else 0)else 0) (List.range d.F.length)=zF (fun a:Nat=>if (a:Int)=o.index then (if vP d a=r∧o.hour=h then o.litres else 0)else 0) (List.range d.F.length):=yJ fun a _=>by
   by_cases ea:(a:Int)=o.index
   ·rw[if_pos ea]
    by_cases ef:vP d a=r
    ·rw[if_pos ef]
     by_cases eh:o.hour=h
     ·rw[if_pos (K3_inj.2 ⟨eh,ea.symm,hout⟩),if_pos ⟨ef,eh⟩]
     ·rw[if_neg (fun e=>eh (K3_inj.1 e).1),if_neg (fun e=>eh e.2)]
    ·rw[if_neg ef,if_neg (fun e=>ef e.1)]
   ·rw[if_neg ea,if_neg (c:=oK o=K3 h a true) (fun e=>ea (K3_inj.1 e).2.1.symm)]
    split<;>rfl
  rw[z1,vT,if_pos (show 0≤o.index∧o.index<(d.F.length:Nat) from⟨hi0,hi1⟩)]
  unfold atR
  rw[if_pos hout,show ((o.index.toNat:Nat):Int)=o.index by omega]
 |false=>
  rw[hout,if_neg (by decide)]at hi1
  have z1:zF (fun a:Nat=>if vP d a=r then (if oK o=K3 h a true then o.litres else 0)else 0) (List.range d.F.length)=0:=wY fun a _=>by
   rw[if_neg (c:=oK o=K3 h a true) (fun e=>by have:=(K3_inj.1 e).2.2;rw[hout]at this;cases this)]
   split<;>rfl
  rw[z1,Int.zero_add]
  have z2:zF (fun c:Nat=>match d.R[c]? with|some x=>(if x.up=(r:Int)then (if oK o=K3 h c false then o.litres else 0)else 0)|none=>0) (List.range d.R.length)=zF (fun c:Nat=>if (c:Int)=o.index then (match d.R[c]? with|some x=>(if x.up=(r:Int)∧o.hour=h then o.litres else 0)|none=>0)else 0) (List.range d.R.length):=yJ fun c _=>by
   by_cases ec:(c:Int)=o.index
   ·rw[if_pos ec]
    cases d.R[c]? with
    |none=>rfl
    |some x=>
     dsimp only
     by_cases eu:x.up=(r:Int)
     ·rw[if_pos eu]
      by_cases eh:o.hour=h
      ·rw[if_pos (K3_inj.2 ⟨eh,ec.symm,hout⟩),if_pos ⟨eu,eh⟩]
      ·rw[if_neg (fun e=>eh (K3_inj.1 e).1),if_neg (fun e=>eh e.2)]
     ·rw[if_neg eu,if_neg (fun e=>eu e.1)]
   ·rw[if_neg ec]
    cases d.R[c]? with
    |none=>rfl
    |some x=>
     dsimp only
     rw[if_neg (c:=oK o=K3 h c false) (fun e=>ec (K3_inj.1 e).2.1.symm)]
     split<;>rfl
  rw[z2,vT,if_pos (show 0≤o.index∧o.index<(d.R.length:Nat) from⟨hi0,hi1⟩)]
  obtain⟨x,hx⟩:=vR (show o.index.toNat<d.R.length by omega)
  have ea:atR d o=x.up:=by
   unfold atR
   rw[hout,if_neg Bool.false_ne_true,hx]
  rw[ea,hx]
theorem sumG_mono{f:BkF}(hf: ∀q,0≤zV f q)(r:Nat): ∀{m n:Nat},m≤n→vD f r m≤vD f r n
 |m,0,h=>by
  have e:m=0:=by omega
  rw[e]
  exact Int.le_refl _
 |m,n+1,h=>by
  by_cases e:m=n+1
  ·subst e;exact Int.le_refl _
  ·have h1:=sumG_mono hf r (m:=m) (n:=n) (by omega)
   have h2:=hf (K3 n r false)
   have e:vD f r (n+1)=vD f r n+zV f (K3 n r false):=rfl
   rw[e]
   omega
theorem load_step{f:BkF}(hn: ∀(h:Int) (i:Nat),h<0→zV f (K3 h i false)=0)(i h:Nat)(n:Nat):
  vD f i (h+1-n)=vD f i (h+1-(n+1))+zV f (K3 ((h:Int)-(n:Int)) i false):=by
 by_cases e:n≤h
 ·rw[show h+1-n=(h-n)+1 by omega,show h+1-(n+1)=h-n by omega,show (h:Int)-(n:Int)=((h-n:Nat):Int) by omega]
  rfl
 ·rw[show h+1-n=0 by omega,show h+1-(n+1)=0 by omega,hn _ _ (by omega)]
  rfl
theorem load_le{f g:BkF}(hn: ∀(h:Int) (i:Nat),h<0→zV f (K3 h i false)=0)(i h:Nat)(hfg: ∀k:Int,zV g (K2 i k)≤zV f (K3 k i false)): ∀n:Nat,qL g i h n≤vD f i (h+1)-vD f i (h+1-n)
 |0=>by simp[qL]
 |n+1=>by
  have h1:=load_le hn i h hfg n
  have h2:=load_step hn i h n
  have h3:=hfg ((h:Int)-(n:Int))
  unfold qL
  omega
theorem load_ge{f g:BkF}(hn: ∀(h:Int) (i:Nat),h<0→zV f (K3 h i false)=0)(i h:Nat)(hfg: ∀k:Int,zV f (K3 k i false)≤zV g (K2 i k)): ∀n:Nat,vD f i (h+1)-vD f i (h+1-n)≤qL g i h n
 |0=>by simp[qL]
 |n+1=>by
  have h1:=load_ge hn i h hfg n
  have h2:=load_step hn i h n
  have h3:=hfg ((h:Int)-(n:Int))
  unfold qL
  omega
theorem sumG_is(f:BkF)(r:Nat): ∀n:Nat,vD f r n=zF (fun h:Nat=>zV f (K3 h r false)) (List.range n)
 |0=>rfl
 |n+1=>by
  rw[List.range_succ,vQ,←sumG_is f r n]
  simp only[zF,Int.add_zero]
  rfl
theorem all_sum: ∀(L:List Ord') (n:Int),L.foldl jS n=n+zF (fun o=>if o.outlet=true then 0 else if o.index=0 then o.litres else 0) L
 |[],n=>by simp[zF]
 |o::L,n=>by
  rw[List.foldl_cons,all_sum L,zF]
  unfold jS
  split
  ·omega
  ·split<;>omega
theorem allF_is(L:List Ord'):allF L=zF (fun o=>if o.outlet=true then 0 else if o.index=0 then o.litres else 0) L:=by
 unfold allF
 rw[all_sum]
 omega
theorem sumG_all{L:List Ord'}(hp:L.Pairwise fun a b=>pF (yF a) (yF b)=true)(hl: ∀o∈L,0≤o.litres)(n:Nat):vD (xJ L) 0 n≤allF L:=by
 rw[sumG_is,allF_is,yJ fun h _=>lit_sum hp _,sumI_swap]
 refine kN fun o ho=>?_
 have h0:=hl o ho
 have e:zF (fun h:Nat=>if oK o=K3 h 0 false then o.litres else 0) (List.range n)=zF (fun h:Nat=>if (h:Int)=o.hour then (if o.index=0∧o.outlet=false then o.litres else 0)else 0) (List.range n):=yJ fun h _=>by
  by_cases e1:(h:Int)=o.hour
  ·rw[if_pos e1]
   by_cases e2:o.index=0∧o.outlet=false
   ·rw[if_pos e2,if_pos (K3_inj.2 ⟨e1.symm,e2.1,e2.2⟩)]
   ·rw[if_neg e2,if_neg (fun e=>e2 ⟨(K3_inj.1 e).2.1,(K3_inj.1 e).2.2⟩)]
  ·rw[if_neg e1,if_neg (fun e=>e1 (K3_inj.1 e).1.symm)]
 have e':zF (fun h:Nat=>if oK o=K3 h ((0:Nat):Int) false then o.litres else 0) (List.range n)=zF (fun h:Nat=>if oK o=K3 h 0 false then o.litres else 0) (List.range n):=rfl
 rw[e',e,vT]
 cases ho:o.outlet with
 |true=>
  rw[if_pos rfl]
  split
  ·rw[if_neg (fun e=>by cases e.2)];exact Int.le_refl _
  ·exact Int.le_refl _
 |false=>
  rw[if_neg Bool.false_ne_true]
  by_cases e1:o.index=0
  ·rw[if_pos e1]
   split
   ·rw[if_pos ⟨e1,rfl⟩];exact Int.le_refl _
   ·exact h0
  ·rw[if_neg e1]
   split
   ·rw[if_neg (fun e=>e1 e.1)];exact Int.le_refl _
   ·exact Int.le_refl _
theorem brok_nil{d:Dis}{g:BkF}{n:Int}: ∀{l:List (Nat×Nat)},(∀p∈l,p.2<d.R.length)→(jV d g n l=[]↔(∀p∈l,∀x,d.R[p.2]?=some x→zV g (K2 p.2 p.1)≤x.cap∧qL g p.2 p.1 x.delay.toNat≤x.bank)∧n≤d.start)
 |[],_=>by
  unfold jV tFlt
  by_cases h:d.start<n
  ·rw[if_pos h];simp;omega
  ·rw[if_neg h];simp;omega
 |(h,i)::l,hl=>by
  have ih:=brok_nil (d:=d) (g:=g) (n:=n) (l:=l) fun p hp=>hl p (by simp[hp])
  obtain⟨x,hx⟩:=vR (hl (h,i) (by simp))
  dsimp only at hx
  unfold jV
  rw[hx]
  dsimp only
  rw[List.append_eq_nil_iff,List.append_eq_nil_iff,ih]
  unfold gFlt bFlt
  constructor
  ·rintro⟨h1,h2,h3,h4⟩
   refine⟨fun p hp y hy=>?_,h4⟩
   rcases List.mem_cons.1 hp with rfl|hp
   ·dsimp only at hy ⊢
    rw[hx]at hy
    cases hy
    constructor
    ·rcases Int.lt_or_le x.cap (zV g (K2 i h))with e|e
     ·rw[if_pos e]at h1;cases h1
     ·exact e
    ·rcases Int.lt_or_le x.bank (qL g i h x.delay.toNat)with e|e
     ·rw[if_pos e]at h2;cases h2
     ·exact e
   ·exact h3 p hp y hy
  ·rintro⟨h1,h2⟩
   obtain⟨k1,k2⟩:=h1 (h,i) (by simp) x hx
   dsimp only at k1 k2
   exact⟨if_neg (by omega),if_neg (by omega),fun p hp=>h1 p (by simp[hp]),h2⟩
theorem plsFrom_mem{N R:Nat}{p:Nat×Nat}:p∈yK N R 0↔p.1<N∧p.2<R:=by
 refine⟨mem_plsFrom,fun h=>?_⟩
 unfold yK
 rw[List.drop_zero]
 simp only[List.mem_flatMap,List.mem_map,List.mem_range]
 exact⟨p.1,h.1,p.2,h.2,rfl⟩
structure Acc(d:Dis)(C:List Clm)(L:List Ord'):Prop where
 rd:readE d L=0
 g1:vN d 1 L=[]
 g2:vN d 2 L=[]
 bk:kX d (vD (xJ L)) (yK d.hours.toNat d.R.length 0)=[]
 tk:tankL d (vD (xJ L)) (List.range d.hours.toNat)=[]
 wt:waterL d (xJ L) (vA d L) (yK d.hours.toNat d.R.length 0)=[]
 um:unmetL (xJ L) (clF C) (yK d.hours.toNat d.F.length 0)=[]
theorem tank_nil{d:Dis}{sF:Nat→Nat→Int}: ∀{l:List Nat},tankL d sF l=[]↔ ∀h∈l,sF 0 (h+1)≤d.start
 |[]=>by simp[tankL]
 |h::l=>by
  unfold tankL
  by_cases e:d.start<sF 0 (h+1)
  ·rw[if_pos e]
   constructor
   ·intro h1;cases h1
   ·intro h1;have:=h1 h (by simp);omega
  ·rw[if_neg e,tank_nil (l:=l)]
   constructor
   ·intro h1 x hx
    rcases List.mem_cons.1 hx with rfl|hx
    ·omega
    ·exact h1 x hx
   ·exact fun h1 x hx=>h1 x (by simp[hx])
theorem read_zero{d:Dis}{L:List Ord'}(h:readE d L=0):(d.R.length:Int)*d.hours≤1024∧L.length≤4096∧yZ d=0∧(∀o∈L,kL d o=true)∧L.Pairwise fun a b=>pF (yF a) (yF b)=true:=by
 unfold readE at h
 have h1:¬ (1024<(d.R.length:Int)*d.hours∨(4096:Int)<L.length):=fun e=>by rw[if_pos e]at h;cases h
 rw[if_neg h1]at h
 have h3:tA d L=0:=by
  by_cases e:tA d L≠0
  ·rw[if_pos e]at h;cases h
  ·omega
 obtain⟨hd,hl,hb⟩:=checkO_dis h3
 exact⟨by omega,hl,hd,ords_each hb,(ordsB_up hb).2⟩
theorem ord_in{d:Dis}{o:Ord'}(h:kL d o=true):(0≤o.hour∧o.hour<d.hours)∧0≤o.index∧(o.outlet=true→o.index<d.F.length)∧(o.outlet=false→o.index<d.R.length)∧1≤o.litres∧o.litres≤1073741824:=by
 unfold kL at h
 simp only[Bool.and_eq_true,decide_eq_true_eq]at h
 obtain⟨⟨⟨⟨⟨h1,h2⟩,h3⟩,h4⟩,h5⟩,h6⟩:=h
 exact⟨⟨h1,h2⟩,h3,fun e=>by rw[e,if_pos rfl]at h4;exact h4,fun e=>by rw[e,if_neg (by decide)]at h4;exact h4,h5,h6⟩
theorem lit_neg{d:Dis}{L:List Ord'}(hp:L.Pairwise fun a b=>pF (yF a) (yF b)=true)(hb: ∀o∈L,kL d o=true)(h:Int)(i:Nat)(hh:h<0):zV (xJ L) (K3 h i false)=0:=by
 rw[lit_sum hp]
 refine wY fun o ho=>?_
 have:=(ord_in (hb o ho)).1
 rw[if_neg (fun e=>by have:=(K3_inj.1 e).1;omega)]
theorem lit_small{d:Dis}{L:List Ord'}(hb: ∀o∈L,kL d o=true): ∀q,0≤zV (xJ L) q∧zV (xJ L) q≤1073741824:=litF_le (L:=L) (fun o ho=>by have:=ord_in (hb o ho);omega) (fun q=>by simp[zV])
open Go.Shelf Go.Sort Go.RowKit Go.WideMaps
theorem mem_flat{α β:Type}{g:α→List β}: ∀{l:List α},l.flatMap g=[]→ ∀x∈l,g x=[]
 |y::l,h,x,hx=>by
  rw[List.flatMap_cons,List.append_eq_nil_iff]at h
  rcases List.mem_cons.1 hx with rfl|hx
  ·exact h.1
  ·exact mem_flat h.2 x hx
 |[],_,x,hx=>(nomatch hx)
section
variable {d:Dis} {C:List Clm} {L:List Ord'}
theorem Acc.gate(h:Acc d C L){o:Ord'}(ho:o∈L)(hg:o.outlet=false){x:Rch}(hx:d.R[o.index.toNat]?=some x):o.litres≤x.cap∧x.siphon≤o.litres:=by
 have h1:=mem_flat h.g1 o ho
 have h2:=mem_flat h.g2 o ho
 unfold gate1 at h1 h2
 rw[hg,if_neg (by decide),hx]at h1 h2
 dsimp only at h1 h2
 rw[if_neg (by decide)]at h1
 rw[if_pos rfl]at h2
 constructor
 ·rcases Int.lt_or_le x.cap o.litres with e|e
  ·rw[if_pos e]at h1;cases h1
  ·exact e
 ·rcases Int.lt_or_le o.litres x.siphon with e|e
  ·rw[if_pos e]at h2;cases h2
  ·exact e
theorem Acc.bank(h:Acc d C L){r k:Nat}(hk:k<d.hours.toNat){x:Rch}(hx:d.R[r]?=some x):vD (xJ L) r (k+1)-vD (xJ L) r (k+1-x.delay.toNat)≤x.bank:=by
 have h1:=mem_flat h.bk (k,r) (plsFrom_mem.2 ⟨hk,lt_of_get hx⟩)
 unfold bank1 at h1
 rw[hx]at h1
 dsimp only at h1
 rcases Int.lt_or_le x.bank (vD (xJ L) r (k+1)-vD (xJ L) r (k+1-x.delay.toNat))with e|e
 ·rw[if_pos e]at h1;cases h1
 ·exact e
theorem Acc.tank(h:Acc d C L){k:Nat}(hk:k<d.hours.toNat):vD (xJ L) 0 (k+1)≤d.start:=tank_nil.1 h.tk k (List.mem_range.2 hk)
theorem Acc.water(h:Acc d C L){r k:Nat}(hk:k<d.hours.toNat)(hr:r<d.R.length):vA d L r k≤arrF d (xJ L) k r:=by
 have h1:=mem_flat h.wt (k,r) (plsFrom_mem.2 ⟨hk,hr⟩)
 unfold water1 at h1
 dsimp only at h1
 rcases Int.lt_or_le (arrF d (xJ L) k r) (vA d L r k)with e|e
 ·rw[if_pos e]at h1;cases h1
 ·exact e
theorem Acc.met(h:Acc d C L){a k:Nat}(hk:k<d.hours.toNat)(ha:a<d.F.length):zV (clF C) (K3 k a true)≤zV (xJ L) (K3 k a true):=by
 have h1:=mem_flat h.um (k,a) (plsFrom_mem.2 ⟨hk,ha⟩)
 unfold unmet1 at h1
 dsimp only at h1
 rcases Int.lt_or_le (zV (xJ L) (K3 k a true)) (zV (clF C) (K3 k a true))with e|e
 ·rw[if_pos e]at h1;cases h1
 ·exact e
end
theorem clV: ∀(C:List Clm) (f:BkF) (k:List KL),zV (C.foldl clStep f) k=zV f k+zF (fun c=>if K3 c.hour c.farm true=k then c.litres else 0) C
 |[],f,k=>by simp[zF]
 |c::C,f,k=>by
  rw[List.foldl_cons,clV C,zF]
  unfold clStep
  rw[wD]
  by_cases h:k=K3 c.hour c.farm true
  ·rw[if_pos h,if_pos h.symm];omega
  ·rw[if_neg h,if_neg (fun e=>h e.symm)];omega
theorem clFV(C:List Clm)(k:List KL):zV (clF C) k=zF (fun c=>if K3 c.hour c.farm true=k then c.litres else 0) C:=by
 unfold clF
 rw[clV]
 simp[zV]
theorem want_farms{d:Dis}{C:List Clm}(hC: ∀c∈C,ClmOk d c)(r h:Nat):zV (vV d C) (K2 r h)=zF (fun a:Nat=>if vP d a=r then zV (clF C) (K3 h a true)else 0) (List.range d.F.length):=by
 rw[wantV,yJ (l:=List.range d.F.length) (g:=fun a:Nat=>zF (fun c:Clm=>if vP d a=r then (if K3 c.hour c.farm true=K3 h a true then c.litres else 0)else 0) C) (fun a _=>by
  split
  ·exact clFV C _
  ·exact(wY fun _ _=>rfl).symm),sumI_swap]
 refine yJ fun c hc=>?_
 obtain⟨a,ha1,ha2⟩:=(hC c hc).fm
 have e:zF (fun a:Nat=>if vP d a=r then (if K3 c.hour c.farm true=K3 h a true then c.litres else 0)else 0) (List.range d.F.length)=zF (fun a:Nat=>if (a:Int)=c.farm then (if vP d a=r∧c.hour=h then c.litres else 0)else 0) (List.range d.F.length):=yJ fun a _=>by
  by_cases ea:(a:Int)=c.farm
  ·rw[if_pos ea]
   by_cases ef:vP d a=r
   ·rw[if_pos ef]
    by_cases eh:c.hour=h
    ·rw[if_pos (K3_inj.2 ⟨eh,ea.symm,rfl⟩),if_pos ⟨ef,eh⟩]
    ·rw[if_neg (fun e=>eh (K3_inj.1 e).1),if_neg (fun e=>eh e.2)]
   ·rw[if_neg ef,if_neg (fun e=>ef e.1)]
  ·rw[if_neg ea,if_neg (c:=K3 c.hour c.farm true=K3 h a true) (fun e=>ea (K3_inj.1 e).2.1.symm)]
   split<;>rfl
 rw[e,vT,if_pos (show 0≤c.farm∧c.farm<(d.F.length:Nat) by omega)]
 rw[show ((c.farm.toNat:Nat):Int)=c.farm by omega]
 by_cases e1:vP d c.farm=r∧c.hour=h
 ·rw[if_pos (K2_inj.2 e1),if_pos e1]
 ·rw[if_neg (fun e=>e1 (K2_inj.1 e)),if_neg e1]
theorem want_nn{d:Dis}{C:List Clm}(hC: ∀c∈C,ClmOk d c)(k:List KL):0≤zV (vV d C) k:=by
 rw[wantV]
 exact uQ fun c hc=>by have:=(hC c hc).lt;split<;>omega
theorem acc_oth{d:Dis}{C:List Clm}{L:List Ord'}(hC: ∀c∈C,ClmOk d c)(h:Acc d C L):
  Oth xR d.R d.hours.toNat (zV (vV d C)) (fun i k=>zV (xJ L) (K3 k i false)) (fun i k=>vA d L i k.toNat):=by
 obtain⟨hW,hl,hd,hb,hp⟩:=read_zero h.rd
 have hvv:=(zP hd).2
 refine⟨fun i k=>lit_small hb _,fun i k hk=>lit_neg hp hb k i hk,fun i x k hx hg=>?_,fun i x k hx hk=>?_,fun i k hi hk=>?_⟩
 ·have hs:=lit_sum hp (K3 k i false)
  have hm: ∃o∈L,oK o=K3 k i false:=by
   rcases Classical.em (∃o∈L,oK o=K3 k i false)with e|e
   ·exact e
   ·rw[hs,wY (fun o ho=>if_neg (fun e2=>e ⟨o,ho,e2⟩))]at hg
    omega
  obtain⟨o,ho,e⟩:=hm
  obtain⟨e1,e2,e3⟩:=K3_inj.1 e
  have h1:=lit_mem hp (fun o ho=>by have:=ord_in (hb o ho);omega) ho
  have h2:=h.gate ho e3 (x:=x) (by rw[e2,Int.toNat_natCast];exact hx)
  rw[e]at h1
  omega
 ·have h1:=h.water (r:=i) (k:=k) hk (lt_of_get hx)
  unfold arrF at h1
  rw[hx]at h1
  rw[Int.toNat_natCast]
  exact h1
 ·rw[Int.toNat_natCast,draw_split hp hb,want_farms hC]
  refine Int.add_le_add_right (kN fun a ha=>?_) _
  split
  ·exact h.met hk (List.mem_range.1 ha)
  ·exact Int.le_refl _
theorem acc_least{d:Dis}{C:List Clm}{L:List Ord'}(hC: ∀c∈C,ClmOk d c)(h:Acc d C L): ∀p∈yL d.R.length d.hours.toNat,∀x,d.R[p.1]?=some x→(uK d C).u (atK p)=false∧(uK d C).m (atK p)≤vA d L p.1 p.2∧((uK d C).m (atK p)≠0→x.delay≤(p.2:Int)∧ ∃v,tZ x ((uK d C).m (atK p))=some v∧v≤zV (xJ L) (K3 ((p.2:Int)-x.delay) p.1 false)):=by
 obtain⟨hW,hl,hd,hb,hp⟩:=read_zero h.rd
 have hvv:=(zP hd).2
 have hT:=wP hvv
 have ho:=acc_oth hC h
 have hdom:=lst_dom hT (ik_all hvv) (want_nn hC) ho
 intro p hpm x hx
 obtain⟨h1,h2⟩:=hdom p hpm
 obtain⟨_,_,h3⟩:=con_le hT (ik_all hvv) (want_nn hC) ho hpm hx h1 h2
 refine⟨h1,h2,fun hm=>?_⟩
 obtain⟨h4,v,h5,_,h6⟩:=h3 hm
 exact⟨h4,v,h5,h6⟩
theorem acc_late{d:Dis}{C:List Clm}{L:List Ord'}(hC: ∀c∈C,ClmOk d c)(h:Acc d C L): ∀p∈yL d.R.length d.hours.toNat,fltO d (uK d C) p=none:=by
 intro p hp
 cases hf:fltO d (uK d C) p with
 |none=>rfl
 |some f=>
  obtain⟨x,hx,hu,hm,hv,_⟩:=flt_of hf
  obtain⟨_,_,h3⟩:=acc_least hC h p hp x hx
  obtain⟨h4,v,h5,_⟩:=h3 hm
  rcases hv with hv|hv
  ·rw[h5]at hv;cases hv
  ·omega
theorem acc_prc{d:Dis}{C:List Clm}{L:List Ord'}(hC: ∀c∈C,ClmOk d c)(h:Acc d C L){q:Prc}(hq:q∈schedC d C):q.litres≤zV (xJ L) (K3 q.hour q.reach false):=by
 obtain⟨p,hp,hq⟩:=List.mem_filterMap.1 hq
 obtain⟨x,v,hx,hu,hm,hv,hd,rfl⟩:=prc_of hq
 obtain⟨_,_,h3⟩:=acc_least hC h p hp x hx
 obtain⟨_,v',h5,h6⟩:=h3 hm
 rw[hv]at h5
 cases h5
 exact h6
theorem uY(L:List Ord'):(xA yF L).Perm L:=uL _
theorem late_sum{f:BkF}(hf: ∀q,0≤zV f q)(e:Nat): ∀n:Nat,zF (fun k:Nat=>if e≤k then zV f (K3 ((k:Int)-(e:Int)) (0:Nat) false)else 0) (List.range n)≤vD f 0 (n-e)
 |0=>by
  have:=sumG_mono hf 0 (Nat.zero_le (0-e))
  simp[zF,vD]
 |n+1=>by
  rw[List.range_succ,vQ]
  have h1:=late_sum hf e n
  simp only[zF,Int.add_zero]
  by_cases h:e≤n
  ·rw[if_pos h,show n+1-e=(n-e)+1 by omega,show (n:Int)-(e:Int)=((n-e:Nat):Int) by omega]
   have e9:vD f 0 (n-e+1)=vD f 0 (n-e)+zV f (K3 (n-e:Nat) (0:Nat) false):=rfl
   rw[e9]
   omega
  ·rw[if_neg h]
   have:=sumG_mono hf 0 (show n-e≤n+1-e by omega)
   omega
noncomputable def xG (d:Dis) (C:List Clm):List Ord':=tL d C++(schedC d C).map ordO
theorem out_outlet{d:Dis}{C:List Clm}{o:Ord'}(ho:o∈tL d C):o.outlet=true:=by
 obtain⟨h,a,_,_,_,rfl⟩:=outs_mem.1 ho
 rfl
theorem planC_gate{d:Dis}{C:List Clm}{o:Ord'}(ho:o∈xG d C)(hg:o.outlet=false): ∃q∈schedC d C,o=ordO q:=by
 rcases List.mem_append.1 ho with h|h
 ·rw[out_outlet h]at hg;cases hg
 ·obtain⟨q,hq,e⟩:=List.mem_map.1 h
  exact⟨q,hq,e.symm⟩
theorem allF_plan{d:Dis}(C:List Clm):allF (xA yF (xG d C))=zF (fun q:Prc=>if q.reach=0 then q.litres else 0) (schedC d C):=by
 rw[allF_is,sumI_perm (uY _)]
 unfold xG
 rw[vQ,sumI_map,wY (l:=tL d C) (fun o ho=>by rw[out_outlet ho];rfl),Int.zero_add]
 rfl
theorem brok_acc{d:Dis}{C:List Clm}{L:List Ord'}(hC: ∀c∈C,ClmOk d c)(h:Acc d C L):brokL d (xA yF (xG d C))=[]:=by
 obtain⟨hW,hl,hd,hb,hp⟩:=read_zero h.rd
 have hvv:=(zP hd).2
 have hT:=wP hvv
 have hle: ∀i k:Int,zV (kD (xA yF (xG d C))) (K2 i k)≤zV (xJ L) (K3 k i false):=fun i k=>by
  rcases gateF_mem (xA yF (xG d C)) i k with e|⟨o,ho,h1,h2,h3,h4⟩
  ·rw[e];exact(lit_small hb _).1
  ·obtain⟨q,hq,rfl⟩:=planC_gate ((uY _).subset ho) h1
   rw[h4,←h2,←h3]
   exact acc_prc hC h hq
 unfold brokL
 rw[brok_nil (fun p hp=>(plsFrom_mem.1 hp).2)]
 refine⟨fun p hp2 x hx=>?_,?_⟩
 ·obtain⟨hk,hr⟩:=plsFrom_mem.1 hp2
  refine⟨?_,?_⟩
  ·rcases gateF_mem (xA yF (xG d C)) p.2 p.1 with e|⟨o,ho,h1,h2,h3,h4⟩
   ·rw[e]
    have:=(RchOk.of (yA hvv hx)).cp
    omega
   ·have h5:=hle p.2 p.1
    have hs:=lit_sum hp (K3 p.1 p.2 false)
    rcases Classical.em (∃o∈L,oK o=K3 p.1 p.2 false) with⟨o2,ho2,e⟩|e
    ·obtain⟨e1,e2,e3⟩:=K3_inj.1 e
     have h7:=h.gate ho2 e3 (x:=x) (by rw[e2,Int.toNat_natCast];exact hx)
     have h8:zV (xJ L) (K3 p.1 p.2 false)≤o2.litres:=by
      rw[hs]
      refine Int.le_of_eq ?_
      have hone: ∀{L:List Ord'},(L.Pairwise fun a b=>oK a≠oK b)→o2∈L→zF (fun o=>if oK o=K3 p.1 p.2 false then o.litres else 0) L=o2.litres:=by
       intro L hpw hm
       induction L with
       |nil=>cases hm
       |cons y L ih=>
        obtain⟨k1,k2⟩:=List.pairwise_cons.1 hpw
        rw[zF]
        rcases List.mem_cons.1 hm with rfl|hm
        ·rw[if_pos e,wY (fun z hz=>if_neg (fun e9=>k1 z hz (e.trans e9.symm))),Int.add_zero]
        ·rw[if_neg (fun e9=>k1 o2 hm (e9.trans e.symm)),ih k2 hm,Int.zero_add]
      exact hone (hp.imp oK_ne) ho2
     omega
    ·rw[wY (fun o ho=>if_neg (fun e2=>e ⟨o,ho,e2⟩))]at hs
     have:=(RchOk.of (yA hvv hx)).cp
     omega
  ·have h1:=load_le (g:=kD (xA yF (xG d C))) (lit_neg hp hb) p.2 p.1 (fun k=>hle p.2 k) x.delay.toNat
   have h2:=h.bank hk hx
   omega
 ·rw[allF_plan,qG]
  have hH1:1≤d.hours:=by
   have hv:=hvv
   unfold yD tY at hv
   simp[vS]at hv
   omega
  have hR0:0<d.R.length:=by
   have hv:=hvv
   unfold yD tY at hv
   simp only[Bool.and_eq_true,decide_eq_true_eq]at hv
   omega
  obtain⟨x0,hx0⟩:=vR hR0
  have hdl:=(RchOk.of (yA hvv hx0)).dl
  have htk:=h.tank (k:=d.hours.toNat-1) (by omega)
  rw[show d.hours.toNat-1+1=d.hours.toNat by omega]at htk
  refine Int.le_trans ?_ htk
  have hnn: ∀q,0≤zV (xJ L) q:=fun q=>(lit_small hb q).1
  refine Int.le_trans ?_ (sumG_mono hnn 0 (show d.hours.toNat-x0.delay.toNat≤d.hours.toNat by omega))
  refine Int.le_trans ?_ (late_sum hnn x0.delay.toNat d.hours.toNat)
  rw[sumI_pls]
  have e1: ∀i:Nat,i∈List.range d.R.length→zF (fun k:Nat=>match prcO d (uK d C) (i,k) with|some q=>(if q.reach=0 then q.litres else 0)|none=>0) (List.range d.hours.toNat)≤if (i:Int)=0 then zF (fun k:Nat=>if x0.delay.toNat≤k then zV (xJ L) (K3 ((k:Int)-(x0.delay.toNat:Nat)) (0:Nat) false)else 0) (List.range d.hours.toNat)else 0:=fun i hi=>by
   by_cases e:(i:Int)=0
   ·rw[if_pos e]
    obtain rfl:i=0:=by omega
    refine kN fun k hk=>?_
    cases hq:prcO d (uK d C) (0,k) with
    |none=>dsimp only;split;exact hnn _;exact Int.le_refl _
    |some q=>
     obtain⟨x,v,hx,hu,hm,hv,hdd,rfl⟩:=prc_of hq
     dsimp only at hx hdd hv hm ⊢
     rw[hx0]at hx
     cases hx
     rw[if_pos (show ((0:Nat):Int)=0 from rfl),if_pos (show x0.delay.toNat≤k by omega)]
     have:=acc_prc hC h (q:=⟨((0:Nat):Int),(k:Int)-x0.delay,v,(uK d C).m (atK (0,k))⟩) (List.mem_filterMap.2 ⟨(0,k),mem_pls.2 ⟨hR0,List.mem_range.1 hk⟩,hq⟩)
     dsimp only at this
     rw[show ((x0.delay.toNat:Nat):Int)=x0.delay by omega]
     exact this
   ·rw[if_neg e]
    refine Int.le_of_eq (wY fun k _=>?_)
    cases hq:prcO d (uK d C) (i,k) with
    |none=>rfl
    |some q=>
     obtain⟨x,v,hx,hu,hm,hv,hdd,rfl⟩:=prc_of hq
     dsimp only
     rw[if_neg e]
  refine Int.le_trans (kN fun i hi=>Int.le_trans (Int.le_of_eq (yJ fun k _=>?_)) (e1 i hi)) ?_
  ·cases prcO d (uK d C) (i,k)<;>rfl
  rw[vT d.R.length 0 (fun _=>zF (fun k:Nat=>if x0.delay.toNat≤k then zV (xJ L) (K3 ((k:Int)-(x0.delay.toNat:Nat)) (0:Nat) false)else 0) (List.range d.hours.toNat)),if_pos (by omega)]
  exact Int.le_refl _
theorem plan_small{d:Dis}{C:List Clm}(hH:d.hours≤30)(hF:d.F.length≤8)(hW:(d.R.length:Int)*d.hours≤1024):(xG d C).length≤4096:=by
 unfold xG
 rw[List.length_append,List.length_map]
 have h1:(tL d C).length≤d.hours.toNat *d.F.length:=outs_len _ _ _
 have h2:(schedC d C).length≤(yL d.R.length d.hours.toNat).length:=List.length_filterMap_le _ _
 have h3:=pls_few hW
 have h4:d.hours.toNat *d.F.length≤30*8:=Nat.mul_le_mul (by omega) hF
 omega
theorem askE_sub{d:Dis}{C D:List Clm}(hC: ∀c∈C,ClmOk d c)(hs:D.Sublist C)(h:pN d C=0):pN d D=0:=by
 unfold pN at h ⊢
 by_cases h1:1024<(d.R.length:Int)*d.hours
 ·rw[if_pos h1]at h;cases h
 rw[if_neg h1]at h ⊢
 have h2:(tL d C).any bigO=false:=by
  cases hb:(tL d C).any bigO with
  |false=>rfl
  |true=>rw[hb]at h;cases h
 have h3:(tL d D).any bigO=false:=by
  rw[List.any_eq_false]
  intro o ho hb
  obtain⟨k,a,hk,ha,hso,rfl⟩:=outs_mem.1 ho
  unfold bigO uA at hb
  dsimp only at hb
  rw[decide_eq_true_eq]at hb
  have hle:zV (qF D) (K2 a k)≤zV (qF C) (K2 a k):=by
   rw[sumCV,sumCV]
   have hnn: ∀c∈C,0≤(if K2 c.farm c.hour=K2 a k then c.litres else 0):=fun c hc=>by have:=(hC c hc).lt;split<;>omega
   clear hb h2 h h1 ho hso hC
   induction hs with
   |slnil=>exact Int.le_refl _
   |cons x _ ih=>have:=ih fun c hc=>hnn c (by simp[hc]);have:=hnn x (by simp);simp only[zF];omega
   |cons_cons x _ ih=>have:=ih fun c hc=>hnn c (by simp[hc]);simp only[zF];omega
  have hsome:(qF C (K2 a k)).isSome=true:=by
   cases hc:qF C (K2 a k) with
   |some _=>rfl
   |none=>
    have:zV (qF C) (K2 a k)=0:=by unfold zV;rw[hc]
    omega
  have:=List.any_eq_false.1 h2 (uA (qF C) k a) (outs_mem.2 ⟨k,a,hk,ha,hsome,rfl⟩)
  unfold bigO uA at this
  dsimp only at this
  rw[decide_eq_true_eq]at this
  omega
 rw[h3];rfl
theorem solve_on{d:Dis}(hd:yZ d=0){C:List Clm}(hC: ∀c∈C,ClmOk d c)(ha:pN d C=0)(hn: ∀p∈yL d.R.length d.hours.toNat,fltO d (uK d C) p=none)(hl:(xG d C).length≤4096):
  yH d C=match brokL d (xA yF (xG d C)) with|[]=>(xA yF (xG d C),fZ,0)|f::_=>([],f,0):=by
 have hp:=planO_is (wP (zP hd).2) hC
 rw[if_neg (by
  intro e
  obtain⟨p,hp,e⟩:=List.any_eq_true.1 e
  rw[hn p hp]at e
  cases e)]at hp
 unfold yH
 rw[if_neg (fun h=>h ha),hp]
 dsimp only
 rw[if_neg (show ¬ 4096<(tL d C++(schedC d C).map ordO).length by have:=hl;unfold xG at this;omega)]
 rfl
theorem acc_make{d:Dis}{C:List Clm}{L:List Ord'}(hC: ∀c∈C,ClmOk d c)(h:Acc d C L)(ha:pN d C=0)(hl:(xG d C).length≤4096):xU d C=true:=by
 obtain⟨_,_,hd,_,_⟩:=read_zero h.rd
 have hs:=solve_on hd hC ha (acc_late hC h) hl
 rw[brok_acc hC h]at hs
 unfold xU
 rw[hs]
 simp
end Go.Proofs.YtaoaafdommlhcaaGreat
