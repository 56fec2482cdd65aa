/- Parts of the proof that belong together: Sh. -/
import Derived.Test.YtaoaafdommlhcaaGreatHA05
import Derived.OrdersIn
import Derived.Still
set_option maxRecDepth 10000
set_option linter.unusedSimpArgs false
set_option linter.unusedVariables false
set_option autoImplicit false
open Go.Proofs.Tryz
namespace Go.Proofs.YtaoaafdommlhcaaGreat
abbrev EnvF:=Nat→Option AV
def evF(e:EnvF):Operand→Option AV
 |.tmp t=>e t
 |.const v=>some (cA v)
 |.func f=>some (.fn (.func f) [] [])
 |.global g=>some (.ptr g 0)
theorem evF_lk(env:Env)(x:Operand):evF (lk env) x=xP env x:=by cases x<;>rfl
def putF(dst:Option Tmp)(v:AV)(e:EnvF):EnvF:=match dst with|some d=>fun t=>if d=t then some v else e t|none=>e
theorem putF_lk(dst:Option Tmp)(v:AV)(env:Env):putF dst v (lk env)=lk (put dst v env):=by
 cases dst with
 |none=>rfl
 |some d=>
  funext t
  simp only[putF,put]
  by_cases h:d=t
  ·subst h;rw[if_pos rfl,uU]
  ·rw[if_neg h,qR h]
def Adds(σ σ':List Ent):Prop:= ∀e,e∈σ→e∈σ'
def AddsK(kp:Ent→Prop)(σ σ':List Ent):Prop:= ∀e,kp e→e∈σ→e∈σ'
theorem AddsK.refl{kp:Ent→Prop}(σ:List Ent):AddsK kp σ σ:=fun _ _ h=>h
theorem AddsK.trans{kp:Ent→Prop}{a b c:List Ent}(h:AddsK kp a b)(k:AddsK kp b c):AddsK kp a c:=fun x hp hx=>k x hp (h x hp hx)
theorem AddsK.cons{kp:Ent→Prop}(e:Ent)(σ:List Ent):AddsK kp σ (e::σ):=fun _ _ h=>List.mem_cons_of_mem _ h
abbrev anyK:Ent→Prop:=fun _=>True
theorem Adds.refl(σ:List Ent):Adds σ σ:=fun _ h=>h
theorem Adds.trans{a b c:List Ent}(h:Adds a b)(k:Adds b c):Adds a c:=fun x hx=>k x (h x hx)
theorem Adds.cons(e:Ent)(σ:List Ent):Adds σ (e::σ):=fun _ h=>List.mem_cons_of_mem _ h
section
variable (P:Program) (ro:Option Nat) (le:List Ent→List Ent→Prop) (ops:Array Oper)
def GOpF(o:Oper)(e:EnvF)(σ:List Ent)(R:AV→List Ent→Prop):Prop:=
 ∀X M a w,Good X M σ w→(∀x∈o.op.operands,∀v,evF e x=some v→VRel M v (a.eval x))→ ∀(K:Act→World→Prop) (Qx:Exit→Act→World→Prop),
  (∀M' u w' v σ',M.le M'→Good X M' σ' w'→VRel M' v u→R v σ'→K (a.put o.dst u) w')→o.wpIn (tN ro) 0 P a w K Qx
def gF(o:Oper)(e:EnvF):Option Bool:=match o.guard with
 |none=>some true
 |some (j,want)=>match ((ops[j]?).bind (·.dst)).bind e with
  |some (.bool b)=>some (b==want)
  |some (.raw (.tuple _))=>some false
  |_=>none
def QF(o:Oper)(e:EnvF)(σ:List Ent)(v:AV):Prop:= ∀σ',le σ σ'→GOpF P ro o e σ' (Is v σ')
def stepF(i:Nat)(K:EnvF→List Ent→Prop)(e:EnvF)(σ:List Ent):Prop:=match ops[i]? with
 |none=>K e σ
 |some o=>(gF ops o e=some false∧K (putF o.dst (.raw undef) e) σ)∨
  (gF ops o e=some true∧((∃v,QF P ro le o e σ v∧K (putF o.dst v e) σ)∨ ∃R,GOpF P ro o e σ R∧ ∀v σ',R v σ'→le σ σ'∧K (putF o.dst v e) σ'))
def anyF(Q:EnvF→List Ent→Prop):Nat→Array Bool→EnvF→List Ent→Prop
 |0,L,e,σ=>Region.ready .any ops L=[]∧Q e σ
 |f+1,L,e,σ=>(Region.ready .any ops L=[]→Q e σ)∧ ∀i∈Region.ready .any ops L,stepF P ro le ops i (anyF Q f (L.setIfInBounds i true)) e σ
def Yld(o:Oper)(v:AV)(e:EnvF)(σ:List Ent):Prop:=(gF ops o e=some true∧QF P ro le o e σ v)∨(gF ops o e=some false∧v=.raw undef)
end
section
variable {P:Program} {ro:Option Nat} {le:List Ent→List Ent→Prop} {ops:Array Oper}
theorem stepF_mono{i:Nat}{K K':EnvF→List Ent→Prop}{e:EnvF}{σ:List Ent}(hk: ∀e σ,K e σ→K' e σ)(h:stepF P ro le ops i K e σ):stepF P ro le ops i K' e σ:=by
 unfold stepF at *
 split
 ·rename_i ho;simp only[ho]at h;exact hk _ _ h
 ·rename_i o ho
  simp only[ho]at h
  rcases h with⟨h1,h2⟩|⟨h1,⟨v,h2,h3⟩|⟨R,h2,h3⟩⟩
  ·exact .inl ⟨h1,hk _ _ h2⟩
  ·exact .inr ⟨h1,.inl ⟨v,h2,hk _ _ h3⟩⟩
  ·exact .inr ⟨h1,.inr ⟨R,h2,fun v σ' hr=>⟨(h3 v σ' hr).1,hk _ _ (h3 v σ' hr).2⟩⟩⟩
theorem putF_comm(e:EnvF){x y:Option Tmp}(v u:AV)(h: ∀d,x=some d→y≠some d):putF y u (putF x v e)=putF x v (putF y u e):=by
 cases x with
 |none=>rfl
 |some d=>
  cases y with
  |none=>rfl
  |some d'=>
   have hne:d≠d':=fun he=>h d rfl (he▸rfl)
   funext t
   simp only[putF]
   by_cases h1:d'=t
   ·subst h1;simp[hne]
   ·simp[h1]
theorem evF_put{e:EnvF}{dst:Option Tmp}{v:AV}{o:Oper}(h: ∀d,dst=some d→d∉o.looksAt ops){x:Operand}(hx:x∈o.op.operands):evF (putF dst v e) x=evF e x:=by
 cases dst with
 |none=>rfl
 |some d=>
  cases x with
  |tmp t=>
   have hne:d≠t:=fun he=>by
    subst he
    refine h d rfl ?_
    unfold Oper.looksAt
    refine List.mem_append.2 (.inl (List.mem_filterMap.2 ⟨.tmp d,by simpa using hx,rfl⟩))
   simp[evF,putF,hne]
  |_=>rfl
theorem gF_put{e:EnvF}{dst:Option Tmp}{v:AV}{o:Oper}(h: ∀d,dst=some d→d∉o.looksAt ops):gF ops o (putF dst v e)=gF ops o e:=by
 unfold gF
 cases hg:o.guard with
 |none=>rfl
 |some g=>
  obtain⟨j,want⟩:=g
  simp only
  have:((ops[j]?).bind (·.dst)).bind (putF dst v e)=((ops[j]?).bind (·.dst)).bind e:=by
   cases hd:(ops[j]?).bind (·.dst) with
   |none=>rfl
   |some t=>
    cases dst with
    |none=>rfl
    |some d=>
     have hne:d≠t:=fun he=>by
      subst he
      refine h d rfl ?_
      unfold Oper.looksAt
      refine List.mem_append.2 (.inr ?_)
      rw[hg]
      simp[hd]
     simp[putF,hne]
  rw[this]
theorem GOpF.congr{o:Oper}{e e':EnvF}{σ:List Ent}{R:AV→List Ent→Prop}(h:GOpF P ro o e σ R)(he: ∀x∈o.op.operands,evF e' x=evF e x):GOpF P ro o e' σ R:=
 fun X M a w hg ho K Qx hK=>h X M a w hg (fun x hx v hv=>ho x hx v (by rw[he x hx];exact hv)) K Qx hK
theorem Yld.put{oi:Oper}{v:AV}{e:EnvF}{σ σ':List Ent}(hy:Yld P ro le ops oi v e σ)(htr: ∀a b c,le a b→le b c→le a c)(hσ:le σ σ'){dst:Option Tmp}(u:AV)(h: ∀d,dst=some d→d∉oi.looksAt ops):Yld P ro le ops oi v (putF dst u e) σ':=by
 unfold Yld at *
 rw[gF_put h]
 rcases hy with⟨h1,h2⟩|h1
 ·exact .inl ⟨h1,fun σ2 hl=>(h2 σ2 (htr _ _ _ hσ hl)).congr (fun x hx=>evF_put h hx)⟩
 ·exact .inr h1
theorem Yld.step{i:Nat}{o:Oper}{v:AV}{e:EnvF}{σ:List Ent}(hi:ops[i]?=some o)(hy:Yld P ro le ops o v e σ){K:EnvF→List Ent→Prop}(h:K (putF o.dst v e) σ):stepF P ro le ops i K e σ:=by
 unfold stepF
 simp only[hi]
 rcases hy with⟨h1,h2⟩|⟨h1,rfl⟩
 ·exact .inr ⟨h1,.inl ⟨v,h2,h⟩⟩
 ·exact .inl ⟨h1,h⟩
theorem stepF_put{j:Nat}{oi oj:Oper}{v:AV}(hrf: ∀a,le a a)(htr: ∀a b c,le a b→le b c→le a c)(hj:ops[j]?=some oj)(hap:oi.apart ops oj=true){K:EnvF→List Ent→Prop}{e:EnvF}{σ:List Ent}
  (hy:Yld P ro le ops oi v e σ) (h:stepF P ro le ops j K (putF oi.dst v e) σ):stepF P ro le ops j (fun e' σ'=>Yld P ro le ops oi v e' σ'∧K (putF oi.dst v e') σ') e σ:=by
 obtain⟨h1,h2,h3⟩:=Oper.apart_spec hap
 unfold stepF at *
 simp only[hj]at *
 rw[gF_put h1]at h
 have cg: ∀{σ R},GOpF P ro oj (putF oi.dst v e) σ R→GOpF P ro oj e σ R:=fun hh=>hh.congr (fun x hx=>(evF_put h1 hx).symm)
 rcases h with⟨g,hk⟩|⟨g,⟨u,hq,hk⟩|⟨R,hR,hk⟩⟩
 ·exact .inl ⟨g,hy.put htr (hrf σ) _ h3,by rw[←putF_comm e v (.raw undef) h2];exact hk⟩
 ·exact .inr ⟨g,.inl ⟨u,fun σ' hl=>cg (hq σ' hl),hy.put htr (hrf σ) _ h3,by rw[←putF_comm e v u h2];exact hk⟩⟩
 ·exact .inr ⟨g,.inr ⟨R,cg hR,fun u σ' hr=>⟨(hk u σ' hr).1,hy.put htr (hk u σ' hr).1 _ h3,by rw[←putF_comm e v u h2];exact(hk u σ' hr).2⟩⟩⟩
theorem anyF_first{Q:EnvF→List Ent→Prop}{i:Nat}{oi:Oper}{v:AV}(hrf: ∀a,le a a)(htr: ∀a b c,le a b→le b c→le a c)(hi:ops[i]?=some oi):
  ∀(fuel:Nat) (L:Array Bool) (e:EnvF) (σ:List Ent),
   (∀j oj,ops[j]?=some oj→j≠i→L.getD j true=false→(∀x∈oj.after,Region.binds .any x=true→x.on≠i)→oi.apart ops oj=true)→
   i∈Region.ready .any ops L→Yld P ro le ops oi v e σ→
   anyF P ro le ops Q fuel (L.setIfInBounds i true) (putF oi.dst v e) σ→anyF P ro le ops Q (fuel+1) L e σ:=by
 intro fuel
 induction fuel with
 |zero=>
  intro L e σ hfree hr hy H
  refine⟨fun h=>(by rw[h]at hr;cases hr),fun j hj=>?_⟩
  by_cases hji:j=i
  ·subst hji;exact hy.step hi H
  ·have:=ready_mono hj hji
   rw[H.1]at this
   cases this
 |succ fuel ih=>
  intro L e σ hfree hr hy H
  refine⟨fun h=>(by rw[h]at hr;cases hr),fun j hj=>?_⟩
  by_cases hji:j=i
  ·subst hji;exact hy.step hi H
  ·have h1:=H.2 j (ready_mono hj hji)
   obtain⟨hjun,oj,hoj,hall⟩:=mem_ready.1 hj
   have hnot: ∀x∈oj.after,Region.binds .any x=true→x.on≠i:=fun x hx hb heq=>by
    have h1:=hall x hx hb
    have h0:=(mem_ready.1 hr).1
    rw[heq]at h1
    rcases Nat.lt_or_ge i L.size with h'|h'
    ·simp[h']at h0 h1;rw[h0]at h1;cases h1
    ·simp[Array.getElem?_eq_none h']at h1
   have h2:=stepF_put hrf htr hoj (hfree j oj hoj hji hjun hnot) hy h1
   have hfree': ∀k ok,ops[k]?=some ok→k≠i→(L.setIfInBounds j true).getD k true=false→
     (∀x∈ok.after,Region.binds .any x=true→x.on≠i)→oi.apart ops ok=true:=fun k ok hk hki hun hno=>by
    refine hfree k ok hk hki ?_ hno
    by_cases hjk:j=k
    ·subst hjk;exact hjun
    ·rw[getD_set_ne true hjk]at hun;exact hun
   refine stepF_mono (fun e' σ' h3=>ih (L.setIfInBounds j true) e' σ' hfree' (ready_mono hr (Ne.symm hji)) h3.1 ?_) h2
   rw[Array.setIfInBounds_comm _ _ hji]
   exact h3.2
def lexE(ef:List Nat)(ops:Array Oper):Nat→Nat→Array Bool→Bool
 |0,_,L=>(Region.ready .any ops L).isEmpty
 |f+1,k,L=>(if ef.contains k then Region.ready .any ops L==[k]else (Region.ready .any ops L).contains k&&Region.free .any ops L k)&&lexE ef ops f (k+1) (L.setIfInBounds k true)
def WQ(P:Program)(ro:Option Nat)(le:List Ent→List Ent→Prop)(ef:List Nat)(ops:Array Oper)(Q:EnvF→List Ent→Prop):Nat→List Oper→EnvF→List Ent→Prop
 |_,[],e,σ=>Q e σ
 |k,o::rest,e,σ=>(ef.contains k=true∧gF ops o e=some true∧ ∃R,GOpF P ro o e σ R∧ ∀v σ',R v σ'→le σ σ'∧WQ P ro le ef ops Q (k+1) rest (putF o.dst v e) σ')∨
  (ef.contains k=false∧ ∃v,Yld P ro le ops o v e σ∧WQ P ro le ef ops Q (k+1) rest (putF o.dst v e) σ)
theorem anyF_lex{ef:List Nat}{Q:EnvF→List Ent→Prop}(hrf: ∀a,le a a)(htr: ∀a b c,le a b→le b c→le a c): ∀(l:List Oper) (k:Nat) (L:Array Bool) (e:EnvF) (σ:List Ent),(∀j,l[j]?=ops[k+j]?)→
  lexE ef ops l.length k L=true→WQ P ro le ef ops Q k l e σ→anyF P ro le ops Q l.length L e σ
 |[],_,_,_,_,_,hB,h=>⟨by simpa [lexE]using hB,h⟩
 |o::l,k,L,e,σ,hl,hB,h=>by
  have h0:ops[k]?=some o:=by simpa using(hl 0).symm
  have hl': ∀j,l[j]?=ops[k+1+j]?:=fun j=>by have:=hl (j+1);simpa [Nat.add_assoc,Nat.add_comm 1 j]using this
  simp only[List.length_cons,lexE,Bool.and_eq_true]at hB
  obtain⟨hr,hB'⟩:=hB
  rcases h with⟨he,hg,R,hR,hK⟩|⟨he,v,hy,hK⟩
  ·rw[if_pos he]at hr
   have hr':Region.ready .any ops L=[k]:=by simpa using hr
   refine⟨fun h=>(by rw[hr']at h;cases h),fun i hi=>?_⟩
   rw[hr',List.mem_singleton]at hi
   subst hi
   unfold stepF
   simp only[h0]
   exact .inr ⟨hg,.inr ⟨R,hR,fun v σ' hr2=>⟨(hK v σ' hr2).1,anyF_lex hrf htr l (i+1) _ _ _ hl' hB' (hK v σ' hr2).2⟩⟩⟩
  ·rw[if_neg (by rw[he];simp),Bool.and_eq_true]at hr
   exact anyF_first hrf htr h0 l.length L e σ (Region.free_spec h0 hr.2) (by simpa using hr.1) hy
    (anyF_lex hrf htr l (k+1) _ _ _ hl' hB' hK)
end
structure SimF(X:Fx)(M:Mem)(e:EnvF)(σ:List Ent)(n:Nat)(ds:List Deferred)(a:Act)(w:World):Prop where
 good:Good X M σ w
 size:a.tmps.size=n
 defs:a.defers=ds
 env: ∀t v,e t=some v→ ∃u,a.tmps[t]?=some u∧VRel M v u
theorem SimF.put{X:Fx}{M M':Mem}{e:EnvF}{σ σ':List Ent}{n:Nat}{ds:List Deferred}{a:Act}{w w':World}(h:SimF X M e σ n ds a w)(hm:M.le M')(hg:Good X M' σ' w'){dst:Option Tmp}(hd:uF dst n=true){v:AV}{u:Value}(hv:VRel M' v u):SimF X M' (putF dst v e) σ' n ds (a.put dst u) w':=by
 refine⟨hg,?_,?_,?_⟩
 ·cases dst<;>simp[Go.Act.put,h.size]
 ·cases dst<;>simp[Go.Act.put,h.defs]
 ·intro t x hx
  cases dst with
  |none=>obtain⟨u',h1,h2⟩:=h.env t x hx;exact⟨u',h1,VRel.mono hm _ _ h2⟩
  |some d=>
   have hd':d<a.tmps.size:=by rw[h.size];simpa [uF]using hd
   simp only[putF]at hx
   simp only[Go.Act.put]
   by_cases e1:d=t
   ·subst e1;rw[if_pos rfl]at hx;cases hx;exact⟨u,by rw[Array.getElem?_setIfInBounds_self_of_lt hd'],hv⟩
   ·rw[if_neg e1]at hx
    obtain⟨u',h1,h2⟩:=h.env t x hx
    exact⟨u',by rw[Array.getElem?_setIfInBounds_ne e1];exact h1,VRel.mono hm _ _ h2⟩
theorem SimF.eval{X:Fx}{M:Mem}{e:EnvF}{σ:List Ent}{n:Nat}{ds:List Deferred}{a:Act}{w:World}(h:SimF X M e σ n ds a w){x:Operand}{v:AV}(hx:evF e x=some v):VRel M v (a.eval x):=by
 cases x with
 |tmp t=>
  obtain⟨u,h1,h2⟩:=h.env t v hx
  simpa [Act.eval,Array.getD_eq_getD_getElem?,h1]using h2
 |const c=>simp only[evF,Option.some.injEq]at hx;subst hx;exact cA_rel M c
 |func f=>simp only[evF,Option.some.injEq]at hx;subst hx;simp[Act.eval,VRel,VRels]
 |global g=>simp only[evF,Option.some.injEq]at hx;subst hx;simp[Act.eval,VRel]
theorem SimF.wanted{X:Fx}{M:Mem}{e:EnvF}{σ:List Ent}{n:Nat}{ds:List Deferred}{a:Act}{w:World}(h:SimF X M e σ n ds a w){ops:Array Oper}{o:Oper}{b:Bool}(hg:gF ops o e=some b):Region.wanted o (yielded ops a.tmps)=b:=by
 unfold gF at hg
 cases ho:o.guard with
 |none=>rw[ho]at hg;simp only[Option.some.injEq]at hg;simp[Region.wanted,ho,hg]
 |some g=>
  obtain⟨j,want⟩:=g
  rw[ho]at hg
  simp only at hg
  cases hd:(ops[j]?).bind (·.dst) with
  |none=>rw[hd]at hg;cases hg
  |some d=>
   rw[hd]at hg
   simp only[Option.bind_some]at hg
   cases he:e d with
   |none=>rw[he]at hg;cases hg
   |some x=>
    obtain⟨u,h1,h2⟩:=h.env d x he
    rw[he]at hg
    cases x<;>first|(cases hg;done)|skip
    ·rename_i b'
     simp only[VRel]at h2
     subst h2
     simp only[Option.some.injEq]at hg
     simp[Region.wanted,ho,yielded,hd,h1,←hg]
    ·rename_i z
     simp only[VRel]at h2
     subst h2
     split at hg
     ·rename_i hz;cases hz
     ·rename_i hz;cases hz;cases hg;simp[Region.wanted,ho,yielded,hd,h1]
     ·cases hg
inductive Anc(ops:Array Oper)(i:Nat):Nat→Prop
 |one {j:Nat} {o:Oper} {x:Edge} (hj:ops[j]?=some o) (hx:x∈o.after) (hb:Region.binds .any x=true) (hi:x.on=i):Anc ops i j
 |more {j:Nat} {o:Oper} {x:Edge} (hj:ops[j]?=some o) (hx:x∈o.after) (hb:Region.binds .any x=true) (h:Anc ops i x.on):Anc ops i j
def cloStep(o:Oper)(acc:List (List Nat)):List Nat:=(o.after.toList.flatMap fun x=>if Region.binds .any x then x.on::(acc[x.on]?).getD []else []).eraseDups
def cloF:List Oper→List (List Nat)→List (List Nat)
 |[],acc=>acc
 |o::r,acc=>cloF r (acc++[cloStep o acc])
theorem cloF_spec{ops:Array Oper}: ∀(r:List Oper) (acc:List (List Nat)),(∀j,r[j]?=ops[acc.length+j]?)→(∀(j:Nat) (c:List Nat),acc[j]?=some c→ ∀i∈c,Anc ops i j)→ ∀(j:Nat) (c:List Nat),(cloF r acc)[j]?=some c→ ∀i∈c,Anc ops i j
 |[],acc,_,h=>h
 |o::r,acc,hr,h=>by
  have h0:ops[acc.length]?=some o:=by simpa using(hr 0).symm
  refine cloF_spec r _ (fun j=>by have:=hr (j+1);simpa [Nat.add_assoc,Nat.add_comm 1 j]using this) ?_
  intro j c hc i hi
  by_cases hj:j<acc.length
  ·rw[List.getElem?_append_left hj]at hc;exact h j c hc i hi
  ·rw[List.getElem?_append_right (by omega)]at hc
   have hj0:j-acc.length=0:=by
    rcases Nat.eq_zero_or_pos (j-acc.length)with h|h
    ·exact h
    ·rw[List.getElem?_eq_none (by simp;omega)]at hc;cases hc
   have hje:j=acc.length:=by omega
   rw[hj0]at hc
   simp only[List.getElem?_cons_zero,Option.some.injEq]at hc
   subst hc hje
   unfold cloStep at hi
   rw[List.mem_eraseDups,List.mem_flatMap]at hi
   obtain⟨x,hx,hi⟩:=hi
   split at hi
   ·rename_i hb
    rcases List.mem_cons.1 hi with rfl|hi
    ·exact .one h0 (by simpa using hx) hb rfl
    ·cases hc:acc[x.on]? with
     |none=>rw[hc]at hi;simp at hi
     |some c=>rw[hc]at hi;exact .more h0 (by simpa using hx) hb (h x.on c hc i hi)
   ·simp at hi
def preB(l:List Oper)(n:Nat):Bool:=
 ((cloF l []).drop n).all (fun c=>(List.range n).all c.contains)&&l.zipIdx.all fun p=>p.1.after.all fun x=>!Region.binds .any x||decide (x.on<p.2)
theorem preB_spec{l:List Oper}{n:Nat}(h:preB l n=true):(∀j,n≤j→j<l.length→ ∀i,i<n→Anc l.toArray i j)∧ ∀(j:Nat) (o:Oper),l[j]?=some o→ ∀x∈o.after,Region.binds .any x=true→x.on<j:=by
 simp only[preB,Bool.and_eq_true,List.all_eq_true]at h
 obtain⟨h1,h2⟩:=h
 have hlen: ∀(r:List Oper) (acc:List (List Nat)),(cloF r acc).length=acc.length+r.length:=by
  intro r
  induction r with
  |nil=>intro acc;rfl
  |cons o r ih=>intro acc;rw[cloF,ih];simp;omega
 constructor
 ·intro j hn hj i hi
  have hl:j<(cloF l []).length:=by rw[hlen];simpa using hj
  have hc:(cloF l [])[j]?=some (cloF l [])[j]:=List.getElem?_eq_getElem hl
  have hm:(cloF l [])[j]∈(cloF l []).drop n:=by
   refine List.mem_of_getElem? (i:=j-n) ?_
   rw[List.getElem?_drop,show n+(j-n)=j by omega];exact hc
  have:=h1 _ hm i (List.mem_range.2 hi)
  exact cloF_spec l [] (by simp) (by simp) j _ hc i (by simpa using this)
 ·intro j o ho x hx hb
  have:=h2 (o,j) (List.mem_zipIdx_iff_getElem?.2 ho)
  rw[Array.all_eq_true']at this
  have:=this x hx
  simpa [hb]using this
def tailB(ops:Array Oper):Nat→Nat→Array Bool→Bool
 |0,_,L=>(Region.ready .any ops L).isEmpty
 |g+1,k,L=>(Region.ready .any ops L==[k])&&tailB ops g (k+1) (L.setIfInBounds k true)
def fullB(l:List Oper)(n:Nat):Array Bool:=Array.replicate n true++Array.replicate (l.length-n) false
def vG(ef:List Nat)(l:List Oper)(n:Nat):Bool:=
 ((l.take n).all fun o=>(match o.guard with|none=>true|some g=>decide (g.1<n))&&(match o.op with|.defer _=>false|_=>true))&&
   lexE ef (l.take n).toArray (l.take n).length 0 (Array.replicate n false)&&preB l n&&
   tailB l.toArray (l.length-n) n (fullB l n)&&decide (n≤l.length)
section
variable {P:Program} {ro:Option Nat} {le:List Ent→List Ent→Prop} {l:List Oper} {n:Nat} {ef:List Nat}
theorem head_op(hB:vG ef l n=true){i:Nat}{o:Oper}(ho:(l.take n).toArray[i]?=some o):
  l.toArray[i]?=some o∧ ∀t,Region.wanted o (yielded (l.take n).toArray t)=Region.wanted o (yielded l.toArray t):=by
 simp only[vG,Bool.and_eq_true,decide_eq_true_eq,List.all_eq_true]at hB
 obtain⟨⟨⟨⟨hall,_⟩,_⟩,_⟩,hn⟩:=hB
 have ho':(l.take n)[i]?=some o:=by simpa using ho
 have hmem:o∈l.take n:=List.mem_of_getElem? ho'
 have hi:i<n:=by have:=(List.getElem?_eq_some_iff.1 ho').1;simp at this;omega
 obtain⟨h1,h2⟩:=hall o hmem
 refine⟨by rw[List.getElem?_take,if_pos hi]at ho';simpa using ho',?_⟩
 intro t
 unfold Region.wanted
 cases hg:o.guard with
 |none=>rfl
 |some g=>
  rw[hg]at h1
  obtain⟨j,b⟩:=g
  have hj:j<n:=by simpa using h1
  have e:(l.take n).toArray[j]?=l.toArray[j]?:=by simp[List.getElem?_take,hj]
  simp only[yielded,e]
structure Goes(l:List Oper)(n f:Nat)(L M:Array Bool):Prop where
 sL:L.size=l.length
 sM:M.size=n
 eq: ∀j,j<n→L.getD j true=M.getD j true
 tail: ∀j,n≤j→j<l.length→L.getD j true=false
 dc: ∀(j:Nat) (o:Oper),L.getD j false=true→l.toArray[j]?=some o→ ∀x∈o.after,Region.binds .any x=true→L.getD x.on false=true
 cnt:(M.toList.filter (!·)).length=f
theorem Goes.anc{f:Nat}{L M:Array Bool}(h:Goes l n f L M){i:Nat}: ∀{j:Nat},Anc l.toArray i j→(∀o,l.toArray[j]?=some o→ ∀x∈o.after,Region.binds .any x=true→L.getD x.on false=true)→L.getD i false=true:=by
 intro j ha
 induction ha with
 |one hj hx hb hi=>intro hp;rw[←hi];exact hp _ hj _ hx hb
 |@more j o x hj hx hb _ ih=>intro hp;exact ih (fun o' ho' y hy hyb=>h.dc x.on o' (hp _ hj _ hx hb) ho' y hy hyb)
theorem getD_lt{L:Array Bool}{i:Nat}(d d':Bool)(h:i<L.size):L.getD i d=L.getD i d':=by
 simp[Array.getD_eq_getD_getElem?,h]
theorem Goes.ready{f:Nat}{L M:Array Bool}(h:Goes l n (f+1) L M)(hn:n≤l.length)(hp:preB l n=true):Region.ready .any l.toArray L=Region.ready .any (l.take n).toArray M∧Region.ready .any l.toArray L≠[]:=by
 obtain⟨hp1,hp2⟩:=preB_spec hp
 have hex: ∃i,i<n∧M.getD i true=false:=by
  have hpos:0<(M.toList.filter (!·)).length:=by rw[h.cnt];omega
  obtain⟨b,hb⟩:=List.exists_mem_of_length_pos hpos
  obtain⟨hb1,hb2⟩:=List.mem_filter.1 hb
  obtain⟨i,hi⟩:=List.mem_iff_getElem?.1 hb1
  have hlt:i<M.size:=by rcases Nat.lt_or_ge i M.size with h|h;exact h;rw[List.getElem?_eq_none (by simpa using h)]at hi;cases hi
  refine⟨i,by rw[←h.sM];exact hlt,?_⟩
  simp only[Array.getElem?_toList]at hi
  simp only[Array.getD_eq_getD_getElem?,hi,Option.getD_some]
  simpa using hb2
 -- the least that has not come up
 have hleast: ∃i,i<n∧L.getD i true=false∧ ∀j,j<i→L.getD j true=true:=by
  obtain⟨i,hi,hf⟩:=hex
  have: ∃k,(k<n∧L.getD k true=false)∧ ∀m,(m<n∧L.getD m true=false)→k≤m:=exists_least ⟨i,hi,by rw[h.eq i hi];exact hf⟩
  obtain⟨k,⟨hk1,hk2⟩,hk3⟩:=this
  refine⟨k,hk1,hk2,fun j hj=>?_⟩
  cases hL:L.getD j true with
  |true=>rfl
  |false=>have:=hk3 j ⟨by omega,hL⟩;omega
 obtain⟨i0,hi0,hL0,hless⟩:=hleast
 have hsz: ∀j,j<n→j<L.size:=fun j hj=>by rw[h.sL];omega
 have hr0:i0∈Region.ready .any l.toArray L:=by
  have hlt:i0<l.length:=by omega
  refine mem_ready.2 ⟨hL0,l[i0],by simp[hlt],fun x hx hb=>?_⟩
  have hlt':=hp2 i0 l[i0] (List.getElem?_eq_getElem hlt) x hx hb
  rw[getD_lt false true (hsz _ (by omega))]
  exact hless _ hlt'
 refine⟨?_,fun h0=>by rw[h0]at hr0;cases hr0⟩
 have hnot: ∀j,n≤j→j∉Region.ready .any l.toArray L:=fun j hj hm=>by
  obtain⟨_,o,ho,hall⟩:=mem_ready.1 hm
  have hjl:j<l.length:=by
   have:=(Array.getElem?_eq_some_iff.1 ho).1;simpa using this
  have:=h.anc (hp1 j hj hjl i0 hi0) (fun o' ho' x hx hb=>by rw[ho]at ho';cases ho';exact hall x hx hb)
  rw[getD_lt false true (hsz _ hi0),hL0]at this
  cases this
 unfold Region.ready at hnot ⊢
 simp only[List.size_toArray,List.length_take,Nat.min_eq_left hn]at hnot ⊢
 have hsplit:List.range l.length=List.range n++(List.range' n (l.length-n)):=by
  have h3:=@List.range'_append 0 n (l.length-n) 1
  simp only[Nat.one_mul,Nat.zero_add]at h3
  rw[List.range_eq_range',List.range_eq_range',h3]
  congr 1;omega
 rw[hsplit,List.filter_append]
 have h2:(List.range' n (l.length-n)).filter (fun i=>!L.getD i true&&((l.toArray[i]?).map (·.after.all fun e=>!Region.binds .any e||L.getD e.on false)).getD false)=[]:=by
  rw[List.filter_eq_nil_iff]
  intro j hj hb
  have hj':=List.mem_range'_1.1 hj
  exact hnot j hj'.1 (List.mem_filter.2 ⟨List.mem_range.2 (by omega),hb⟩)
 rw[h2,List.append_nil]
 refine List.filter_congr (fun j hj=>?_)
 have hjn:=List.mem_range.1 hj
 have hget:(l.take n).toArray[j]?=l.toArray[j]?:=by simp[List.getElem?_take,hjn]
 rw[hget,h.eq j hjn]
 congr 1
 cases ho:l.toArray[j]? with
 |none=>rfl
 |some o=>
  simp only[Option.map_some,Option.getD_some]
  rw[Bool.eq_iff_iff,Array.all_eq_true',Array.all_eq_true']
  have key: ∀x∈o.after,(!Region.binds .any x||L.getD x.on false)=(!Region.binds .any x||M.getD x.on false):=fun x hx=>by
   cases hb:Region.binds .any x with
   |false=>rfl
   |true=>
    have hlt:=hp2 j o (by simpa using ho) x hx hb
    rw[getD_lt false true (hsz _ (by omega)),h.eq _ (by omega),getD_lt true false (by rw[h.sM];omega)]
  exact⟨fun hh x hx=>by rw[←key x hx];exact hh x hx,fun hh x hx=>by rw[key x hx];exact hh x hx⟩
theorem Goes.next{f i:Nat}{L M:Array Bool}(h:Goes l n (f+1) L M)(hn:n≤l.length)(hp:preB l n=true)(hi:i∈Region.ready .any (l.take n).toArray M):Goes l n f (L.setIfInBounds i true) (M.setIfInBounds i true):=by
 have hr:=(h.ready hn hp).1
 have hiL:i∈Region.ready .any l.toArray L:=by rw[hr];exact hi
 obtain⟨hun,o,ho,_⟩:=mem_ready.1 hi
 have hin:i<n:=by have:=(Array.getElem?_eq_some_iff.1 ho).1;simp at this;omega
 obtain⟨_,oL,hoL,hallL⟩:=mem_ready.1 hiL
 have hiM:i<M.size:=by rw[h.sM];exact hin
 have hiLs:i<L.size:=by rw[h.sL];omega
 refine⟨by simpa using h.sL,by simpa using h.sM,fun j hj=>?_,fun j h1 h2=>?_,fun j o' hj ho' x hx hb=>?_,?_⟩
 ·by_cases e:i=j
  ·subst e;simp[Array.getD_eq_getD_getElem?,hiM,hiLs]
  ·rw[getD_set_ne true e,getD_set_ne true e];exact h.eq j hj
 ·rw[getD_set_ne true (by omega)];exact h.tail j h1 h2
 ·have hx':L.getD x.on false=true:=by
   by_cases e:i=j
   ·subst e;rw[hoL]at ho';cases ho';exact hallL x hx hb
   ·rw[getD_set_ne false e]at hj;exact h.dc j o' hj ho' x hx hb
  by_cases e:i=x.on
  ·subst e;simp[Array.getD_eq_getD_getElem?,hiLs]
  ·rw[getD_set_ne false e];exact hx'
 ·have key: ∀(m:List Bool) (i:Nat),m[i]?=some false→((m.set i true).filter (!·)).length+1=(m.filter (!·)).length:=by
   intro m
   induction m with
   |nil=>intro i h;simp at h
   |cons b m ih=>
    intro i h
    cases i with
    |zero=>simp at h;subst h;simp
    |succ i=>simp at h;have:=ih i h;cases b<;>simp[List.filter_cons]<;>omega
  have hm:M.toList[i]?=some false:=by
   simp only[Array.getElem?_toList]
   rw[Array.getElem?_eq_getElem hiM]
   have:M.getD i true=M[i]:=by simp[Array.getD_eq_getD_getElem?,hiM]
   rw[←this,hun]
  have:=key M.toList i hm
  rw[Array.toList_setIfInBounds]
  have hc:=h.cnt
  omega
theorem Goes.full{L M:Array Bool}(h:Goes l n 0 L M)(hn:n≤l.length):L=fullB l n:=by
 apply Array.ext_getElem?
 intro j
 unfold fullB
 by_cases hj:j<l.length
 ·have hjL:j<L.size:=by rw[h.sL];exact hj
  have e1:L[j]?=some (L.getD j true):=by rw[Array.getElem?_eq_getElem hjL];simp[Array.getD_eq_getD_getElem?,hjL]
  rw[e1]
  by_cases hjn:j<n
  ·rw[h.eq j hjn]
   have hjM:j<M.size:=by rw[h.sM];exact hjn
   have:M.getD j true=true:=by
    cases hm:M.getD j true with
    |true=>rfl
    |false=>
     have hmem:false∈M.toList.filter (!·):=List.mem_filter.2 ⟨List.mem_iff_getElem?.2 ⟨j,by rw[Array.getElem?_toList,Array.getElem?_eq_getElem hjM];simpa [Array.getD_eq_getD_getElem?,hjM]using hm⟩,rfl⟩
     have:=h.cnt
     rw[List.eq_nil_of_length_eq_zero this]at hmem
     cases hmem
   rw[this]
   rw[Array.getElem?_append_left (by simpa using hjn)]
   simp[hjn]
  ·rw[h.tail j (by omega) hj]
   rw[Array.getElem?_append_right (by simp;omega)]
   have h4:j-n<l.length-n:=by omega
   simp[h4]
 ·rw[Array.getElem?_eq_none (by rw[h.sL];omega),Array.getElem?_eq_none (by simp;omega)]
theorem Goes.start(hn:n≤l.length):Goes l n n (Array.replicate l.length false) (Array.replicate n false):=by
 refine⟨by simp,by simp,fun j hj=>?_,fun j _ hj=>by simp[Array.getD_eq_getD_getElem?,hj],fun j o hj=>?_,by simp⟩
 ·simp[Array.getD_eq_getD_getElem?,hj,show j<l.length by omega]
 ·by_cases h:j<l.length<;>simp[Array.getD_eq_getD_getElem?,h]at hj
theorem any_head(hrf: ∀a,le a a){nn:Nat}{ds:List Deferred}{Qr:Exit→Act→World→Prop}{g:Nat}{Q:EnvF→List Ent→Prop}{X:Fx}(hB:vG ef l n=true)(hn:n≤l.length)(hp:preB l n=true)(hd: ∀o∈l,uF o.dst nn=true)
  {M0:Mem} (hQ: ∀M e σ a w,M0.le M→SimF X M e σ nn ds a w→Q e σ→wpAnyIn (tN ro) 0 P .any l.toArray Qr g (fullB l n) a w):
  ∀f L M' (M:Mem) e σ a w,Goes l n f L M'→M0.le M→SimF X M e σ nn ds a w→anyF P ro le (l.take n).toArray Q f M' e σ→wpAnyIn (tN ro) 0 P .any l.toArray Qr (f+g) L a w
 |0,L,M',M,e,σ,a,w,hb,hm,hs,h=>by
  rw[hb.full hn,Nat.zero_add]
  exact hQ M e σ a w hm hs h.2
 |f+1,L,M',M,e,σ,a,w,hb,hm,hs,h=>by
  obtain⟨heq,hne⟩:=hb.ready hn hp
  rw[show f+1+g=(f+g)+1 by omega]
  refine⟨fun h0=>absurd h0 hne,fun i hi=>?_⟩
  have hi':i∈Region.ready .any (l.take n).toArray M':=heq▸hi
  have hnx:=hb.next hn hp hi'
  have h2:=h.2 i hi'
  obtain⟨_,o,ho,_⟩:=mem_ready.1 hi'
  obtain⟨ho',hwt⟩:=head_op hB ho
  have hol : o ∈ l := by have : l[i]? = some o := by simpa using ho'
                         exact List.mem_of_getElem? this
  unfold stepF at h2
  simp only[ho]at h2
  unfold wpOpIn
  simp only[ho']
  rcases h2 with⟨h3,h4⟩|⟨h3,⟨v,hq,hk⟩|⟨R,hR,hk⟩⟩
  ·have hw:=hs.wanted h3
   rw[hwt]at hw
   simp only[hw,Bool.false_eq_true,if_false]
   exact⟨fun f _=>tT f ro,any_head hrf hB hn hp hd hQ f _ _ M _ σ _ w hnx hm (hs.put (Mem.le_refl M) hs.good (hd o hol) (by simp[VRel])) h4⟩
  ·have hw:=hs.wanted h3
   rw[hwt]at hw
   simp only[hw,if_true]
   refine hq σ (hrf σ) X M a w hs.good (fun x _ v hv=>hs.eval hv) _ _ ?_
   rintro M2 u w' v' σ' hm2 hg2 hv2 ⟨⟩
   exact any_head hrf hB hn hp hd hQ f _ _ M2 _ _ _ w' hnx (Mem.le_trans hm hm2) (hs.put hm2 hg2 (hd o hol) hv2) hk
  ·have hw:=hs.wanted h3
   rw[hwt]at hw
   simp only[hw,if_true]
   refine hR X M a w hs.good (fun x _ v hv=>hs.eval hv) _ _ ?_
   intro M2 u w' v σ' hm2 hg2 hv2 hr2
   exact any_head hrf hB hn hp hd hQ f _ _ M2 _ σ' _ w' hnx (Mem.le_trans hm hm2) (hs.put hm2 hg2 (hd o hol) hv2) (hk v σ' hr2).2
theorem any_tail{ops:Array Oper}{F:Fence}{m:Nat}{Qr:Exit→Act→World→Prop}: ∀(t:List Oper) (k:Nat) (L:Array Bool),(∀j,t[j]?=ops[k+j]?)→tailB ops t.length k L=true→ ∀a w,wpListIn F m P ops Qr t a w→wpAnyIn F m P .any ops Qr t.length L a w
 |[],k,L,_,hB,a,w,h=>⟨by simpa [tailB]using hB,h⟩
 |o::t,k,L,hk,hB,a,w,h=>by
  have h0:ops[k]?=some o:=by simpa using(hk 0).symm
  simp only[List.length_cons,tailB,Bool.and_eq_true,beq_iff_eq]at hB
  refine⟨fun h0=>(by rw[hB.1]at h0;cases h0),fun i hi=>?_⟩
  rw[hB.1,List.mem_singleton]at hi
  subst hi
  have hk': ∀j,t[j]?=ops[i+1+j]?:=fun j=>by have:=hk (j+1);simpa [Nat.add_assoc,Nat.add_comm 1 j]using this
  have hw:wpOpIn F m P ops Qr i (wpListIn F m P ops Qr t) a w:=by unfold wpOpIn;simp only[h0];exact h
  exact wpOpIn_mono (fun a' w' h'=>any_tail t (i+1) _ hk' hB.2 a' w' h') hw
theorem ex_drawK(kp:Ent→Prop){id:Nat}{Q:Exit→St→Prop}{s:St}(n:Nat)(ef:List Nat)(hm:P.follows .mixedOrders=true)(hB:vG ef l n=true)(hd:(l.all fun o=>uF o.dst s.n)=true)
  (h:WQ P ro (AddsK kp) ef (l.take n).toArray (fun e σ=> ∃env,lk env=e∧EXL P ro l.toArray (l.drop n) Q {s with env:=env,σ:=σ}) 0 (l.take n) (lk s.env) s.σ):EX P ro (.region id l.toArray true) Q s:=by
 refine⟨fun X M a w hs=>?_⟩
 refine wpIn_region_any hm ?_
 have hB0:=hB
 simp only[vG,Bool.and_eq_true,decide_eq_true_eq]at hB0
 obtain⟨⟨⟨⟨_,hlex⟩,hpre⟩,htail⟩,hn⟩:=hB0
 have hd': ∀o∈l,uF o.dst s.n=true:=fun o ho=>List.all_eq_true.1 hd o ho
 have hlen:(l.take n).length=n:=by simp;omega
 have hany:=anyF_lex (le:=AddsK kp) (AddsK.refl) (fun _ _ _=>AddsK.trans) (l.take n) 0 (Array.replicate n false) (lk s.env) s.σ (by simp) hlex h
 rw[hlen]at hany
 have:=any_head (P:=P) (ro:=ro) (le:=AddsK kp) AddsK.refl (nn:=s.n) (ds:=marksD s.marks++X.dt) (Qr:=postA X M Q) (g:=l.length-n) (X:=X) (M0:=M) hB hn hpre hd' (Q:=fun e σ=> ∃env,lk env=e∧EXL P ro l.toArray (l.drop n) Q {s with env:=env,σ:=σ}) ?_ n _ _ M (lk s.env) s.σ a _ (Goes.start hn) (Mem.le_refl M) ⟨hs.good.drew,hs.size,hs.defs,hs.env⟩ hany
 ·rw[List.size_toArray]
  rwa [show n+(l.length-n)=l.length by omega]at this
 ·intro M1 e σ a1 w1 hm1 hs1 hq
  obtain⟨env,rfl,hx⟩:=hq
  have h1:=hx.run X M1 a1 w1 ⟨hs1.good,hs1.size,hs1.defs,hs1.env⟩
  have h2:=wR (fun _ _ _ hp=>qT hm1 (fun _ _ h=>h) hp) _ _ _ h1
  have h3:=any_tail (l.drop n) n (fullB l n) (fun j=>by simp[List.getElem?_drop]) (by rw[List.length_drop];exact htail) a1 w1 h2
  rwa [List.length_drop]at h3
end
end Go.Proofs.YtaoaafdommlhcaaGreat
