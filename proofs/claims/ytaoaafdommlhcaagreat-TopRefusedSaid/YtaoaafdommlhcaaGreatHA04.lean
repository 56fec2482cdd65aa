/- Parts of the proof that belong together: Sd Se. -/
import Derived.Test.YtaoaafdommlhcaaGreatHA03
import Derived.Laws.OwnMore
import Derived.Laws.AppendOwnNone
import Derived.Laws.MakeOwn
set_option maxRecDepth 10000
set_option linter.unusedSimpArgs false
set_option linter.unusedVariables false
set_option autoImplicit false
open Go.Proofs.Tryz
namespace Go.Proofs.YtaoaafdommlhcaaGreat
section
variable {P:Program} {ro:Option Nat} {env:Env} {σ σ':List Ent} {o:Oper} {dst:Option Tmp} {ty:TypeId} {pos:String} {after:Array Edge} {guard:Option (Nat×Bool)}
def AV.cells:AV→List AV
 |.agg l=>l
 |v=>[v]
theorem VRel.cells{M:Mem}{x:AV}{v:Value}(h:VRel M x v)(hx:(∃l,x=.agg l)∨x.one=true):VRels M x.cells v.cells.toList:=by
 rcases hx with⟨l,rfl⟩|hx
 ·simp only[VRel]at h;obtain⟨vs,rfl,h⟩:=h;exact h
 ·have h1:=h.one hx
  have e:v.cells=#[v]:=by cases v<;>first|rfl|cases h1
  have e':x.cells=[x]:=by cases x<;>first|rfl|cases hx
  rw[e,e']
  exact⟨v,[],rfl,h,rfl⟩
theorem alloc_cells{X:Fx}{M:Mem}{w:World}(hg:Good X M σ w)(c:Array Value)(t:TypeId){l:List AV}(h:VRels M l c.toList):
  Good X M (.cells w.heap.size l t::σ) {w with heap:=w.heap.push (.cells c t)}:=
 hg.alloc (.cells c t) _ rfl ⟨c,by have:=World.alloc_heap_new w (.cells c t);exact this,h⟩
def isOne(x:AV):Bool:=match x with|.agg _=>true|x=>x.one
theorem isOne_spec{x:AV}(h:isOne x=true):(∃l,x=.agg l)∨x.one=true:=by
 cases x<;>first|exact .inl ⟨_,rfl⟩|exact .inr h
inductive Boxed(l:List AV)(t:TypeId)(σ:List Ent):AV→List Ent→Prop
 |mk (b:Nat):Boxed l t σ (.ptr b 0) (.cells b l t::σ)
theorem g_box{t:TypeId}{x:Operand}{v:AV}(hx:xP env x=some v)(h1:isOne v=true):GOp P ro ⟨dst,.box t x,ty,pos,after,guard⟩ env σ (Boxed v.cells t σ):=
 wJ (by intro c h;cases h) fun X M a w hg ho=>by
  have hv:=ho x (by simp[Op.operands]) _ hx
  refine⟨M,.pointer (some ⟨w.heap.size,0,none⟩),_,.ptr w.heap.size 0,_,Mem.le_refl M,alloc_cells hg (a.eval x).cells t (hv.cells (isOne_spec h1)),by simp[VRel],.mk _,.inl ?_⟩
  simp[execOp,Instr.box,newVar,newRow,newObj,Sem.run_bind,Sem.run]
def zeroA(P:Program)(t:TypeId):Option (List AV):=match (P.info? t).bind (·.zero) with
 |some z=>some (z.cells.toList.map cA)
 |none=>none
theorem pC{t:TypeId}{l:List AV}(h:zeroA P t=some l): ∃i z,P.info? t=some i∧i.zero=some z∧l=z.cells.toList.map cA:=by
 unfold zeroA at h
 cases hi:P.info? t with
 |none=>rw[hi]at h;cases h
 |some i=>
  rw[hi]at h
  simp only[Option.bind_some]at h
  cases hz:i.zero with
  |none=>rw[hz]at h;cases h
  |some z=>rw[hz]at h;cases h;exact⟨i,z,rfl,hz,rfl⟩
theorem cAs_rel(M:Mem): ∀l:List Value,VRels M (l.map cA) l
 |[]=>by simp[VRels]
 |v::l=>by simp only[List.map_cons,VRels];exact⟨v,l,rfl,cA_rel M v,cAs_rel M l⟩
theorem g_alloc{t:TypeId}{l:List AV}(hz:zeroA P t=some l):GOp P ro ⟨dst,.alloc t,ty,pos,after,guard⟩ env σ (Boxed l t σ):=
 wJ (by intro c h;cases h) fun X M a w hg ho=>by
  obtain⟨i,z,hi,hz',rfl⟩:=pC hz
  refine⟨M,.pointer (some ⟨w.heap.size,0,none⟩),_,.ptr w.heap.size 0,_,Mem.le_refl M,alloc_cells hg z.cells t (cAs_rel M _),by simp[VRel],.mk _,.inl ?_⟩
  simp[execOp,Instr.alloc,newVar,newRow,newObj,Sem.run_bind,Sem.run,zeroValue,typeInfo,hi,hz']
def setL:List AV→Nat→List AV→List AV
 |l,_,[]=>l
 |l,i,x::r=>setL (l.set i x) (i+1) r
theorem setL_eq: ∀(r l:List AV) (i:Nat),i+r.length≤l.length→setL l i r=l.take i++r++l.drop (i+r.length)
 |[],l,i,_=>by simp[setL]
 |x::r,l,i,h=>by
  simp only[List.length_cons]at h
  rw[setL,setL_eq r (l.set i x) (i+1) (by simp;omega)]
  have hi:i<l.length:=by omega
  rw[show i+(x::r).length=i+1+r.length by simp;omega]
  rw[List.take_add_one,List.take_set_of_le (by omega),List.drop_set_of_lt (by omega)]
  simp[List.getElem?_set,hi]
theorem setL_rel{M:Mem}: ∀{r:List AV} {vs:List Value} {l:List AV} {c:List Value} {i:Nat},VRels M l c→VRels M r vs→i+r.length≤l.length→VRels M (setL l i r) (c.take i++vs++c.drop (i+vs.length)):=by
 intro r vs l c i h1 h2 h3
 rw[setL_eq r l i h3]
 have e:=h2.length
 rw[e]
 exact((h1.take i).append h2).append (h1.drop _)
theorem qW{M:Mem}: ∀{l:List AV} {vs:List Value},VRels M l vs→(l.all AV.one)=true→ ∀v∈vs,v.oneCell'=true
 |[],vs,h,_=>by simp only[VRels]at h;simp[h]
 |x::l,vs,h,ho=>by
  simp only[VRels]at h
  obtain⟨v,r,rfl,k1,k2⟩:=h
  simp only[List.all_cons,Bool.and_eq_true]at ho
  intro u hu
  rcases List.mem_cons.1 hu with rfl|hu
  ·exact k1.one ho.1
  ·exact qW k2 ho.2 u hu
theorem g_store{t tb:TypeId}{x y:Operand}{b i sz:Nat}{g:Bool}{v:AV}{l l':List AV}(ht:tyOf P t=some (g,sz))(hx:xP env x=some (.ptr b i))(hy:xP env y=some v)(h1:isOne v=true)(ha:v.cells.all AV.one=true)(hsz:v.cells.length=sz)
  (hl:i+sz≤l.length) (hl':setL l i v.cells=l') (hu:Upd σ (.cells b l tb) (.cells b l' tb) σ'):GOp P ro ⟨dst,.store t x y,ty,pos,after,guard⟩ env σ (Is (.raw undef) σ'):=
 wJ (by intro c h;cases h) fun X M a w hg ho=>by
  have hp:=ho x (by simp[Op.operands]) _ hx
  have hv:=(ho y (by simp[Op.operands]) _ hy).cells (isOne_spec h1)
  simp only[VRel]at hp
  obtain⟨c,hc,hr⟩:=hg.ent _ hu.mem
  obtain⟨k1,k2⟩:=xE ht w
  have e1:=hv.length
  have e2:=hr.length
  simp only[Array.length_toList]at e1 e2
  have hst:=run_storeCells_at P b i tb (a.eval y).cells.toList 0 c w hc (by simp only[Array.length_toList];omega) (qW hv ha)
  simp only[Nat.add_zero]at hst
  refine⟨M,undef,(w.setRow b (c.toList.take i++(a.eval y).cells.toList++c.toList.drop (i+(a.eval y).cells.toList.length)).toArray),.raw undef,σ',Mem.le_refl M,?_,by simp[VRel],.mk,.inr ⟨?_,rfl⟩⟩
  rotate_left
  ·simp only[execOp,hp,Instr.storeAt,Instr.sureAddr,storeVar,Sem.run_bind,Sem.run_pure,Result.andThen_ok,k2,e1,hsz,ne_eq,not_true_eq_false,if_false,hst]
  ·refine hg.upd hu rfl rfl rfl (fun k hk hne=>setRow_other w b k _ (fun e=>hne (by simp[Ent.block,e]))) ⟨_,setRow_heap w b c _ tb (0,0) hc,?_⟩ (.inl rfl)
   rw[←hl']
   simpa using setL_rel (i:=i) hr hv (by omega)
theorem g_store'{t tb:TypeId}{x y:Operand}{b i sz:Nat}{g:Bool}{v:AV}{l l':List AV}(hx:xP env x=some (.ptr b i))(ht:tyOf P t=some (g,sz))(hy:xP env y=some v)(hu:Upd σ (.cells b l tb) (.cells b l' tb) σ')(hl':setL l i v.cells=l')(h1:isOne v=true)(ha:v.cells.all AV.one=true)(hsz:v.cells.length=sz)
  (hl:i+sz≤l.length):GOp P ro ⟨dst,.store t x y,ty,pos,after,guard⟩ env σ (Is (.raw undef) σ'):=g_store ht hx hy h1 ha hsz hl hl' hu
theorem g_storeRow{t e:TypeId}{x y:Operand}{i sz n:Nat}{g:Bool}{v:AV}{u:Value}{l l':List (List AV)}(ht:tyOf P t=some (g,n))(hx:xP env x=some (.rptr u i))(hy:xP env y=some v)(h1:isOne v=true)(ha:v.cells.all AV.one=true)(hsz:v.cells.length=n)
  (hl:i+n≤l.flatten.length) (hl':l'.flatten=setL l.flatten i v.cells) (hlen:l'.length=l.length) (hs: ∀x∈l',x.length=sz) (hu:Upd σ (.row u e sz l) (.row u e sz l') σ'):GOp P ro ⟨dst,.store t x y,ty,pos,after,guard⟩ env σ (Is (.raw undef) σ'):=
 wJ (by intro c h;cases h) fun X M a w hg ho=>by
  have hp:=ho x (by simp[Op.operands]) _ hx
  have hv:=(ho y (by simp[Op.operands]) _ hy).cells (isOne_spec h1)
  simp only[VRel]at hp
  obtain⟨b,m,cap,rfl,hp⟩:=hp
  obtain⟨xs,hown,hr,_⟩:=hg.ent _ hu.mem
  obtain⟨k1,k2⟩:=xE ht w
  have e1:=hv.length
  have e2:=hr.length
  simp only[Array.length_toList]at e1
  obtain⟨ho1,ho2⟩:=hown
  rcases ho2 with⟨h0,_⟩|⟨g',cap',cur,hve,hb,hgg,hnc,hcm,hcs,htk⟩
  ·cases h0
  cases hve
  have hfit:i+n≤cur.size:=by
   have:=congrArg List.length htk
   simp only[List.length_take,Array.length_toList]at this
   omega
  have hst:=run_storeCells_at P b i e (a.eval y).cells.toList 0 cur w hgg (by simp only[Array.length_toList];omega) (qW hv ha)
  simp only[Nat.add_zero]at hst
  refine⟨M,undef,(w.setRow b (cur.toList.take i++(a.eval y).cells.toList++cur.toList.drop (i+(a.eval y).cells.toList.length)).toArray),.raw undef,σ',Mem.le_refl M,?_,by simp[VRel],.mk,.inr ⟨?_,rfl⟩⟩
  rotate_left
  ·simp only[execOp,hp,Instr.storeAt,Instr.sureAddr,storeVar,Sem.run_bind,Sem.run_pure,Result.andThen_ok,k2,e1,hsz,ne_eq,not_true_eq_false,if_false,hst]
  ·refine hg.upd hu rfl rfl rfl (fun k hk hne=>setRow_other w b k _ (fun e=>hne (by simp[Ent.block,Value.ownBlock,e]))) ?_ (.inl rfl)
   have hxl:xs.length=l.length*sz:=ho1
   have htk':List.take (l.length*sz) (cur.toList.take i++(a.eval y).cells.toList++cur.toList.drop (i+(a.eval y).cells.toList.length))=xs.take i++(a.eval y).cells.toList++xs.drop (i+(a.eval y).cells.toList.length):=by
    have hle:i+(a.eval y).cells.toList.length≤xs.length:=by simp only[Array.length_toList];omega
    rw[←htk]
    rw[←hxl]at *
    simp only[Array.length_toList]at hle ⊢
    apply List.ext_getElem?
    intro j
    simp only[List.getElem?_take,List.getElem?_append,List.length_append,List.length_take,Array.length_toList,List.getElem?_drop]
    by_cases hj:j<xs.length
    ·rw[if_pos hj]
     by_cases hj1:j<i
     ·simp only[show j<min i cur.size+(a.eval y).cells.size by omega,show j<min i cur.size by omega,show j<min i (min xs.length cur.size)+(a.eval y).cells.size by omega,show j<min i (min xs.length cur.size) by omega,if_true,hj1,hj]
     ·by_cases hj2:j<i+(a.eval y).cells.size
      ·simp only[show j<min i cur.size+(a.eval y).cells.size by omega,show ¬ j<min i cur.size by omega,show j<min i (min xs.length cur.size)+(a.eval y).cells.size by omega,show ¬ j<min i (min xs.length cur.size) by omega,if_true,if_false]
       congr 1;omega
      ·simp only[show ¬ j<min i cur.size+(a.eval y).cells.size by omega,show ¬ j<min i (min xs.length cur.size)+(a.eval y).cells.size by omega,if_false]
       rw[if_pos (by omega)]
       congr 1;omega
    ·rw[if_neg hj]
     simp only[show ¬ j<min i (min xs.length cur.size)+(a.eval y).cells.size by omega,if_false]
     rw[if_neg (by omega)]
   refine⟨xs.take i++(a.eval y).cells.toList++xs.drop (i+(a.eval y).cells.toList.length),⟨?_,.inr ⟨b,cap,_,by rw[hlen],hb,setRow_heap w b cur _ e (0,0) hgg,by rw[hlen];exact hnc,hcm,?_,?_⟩⟩,?_,hs⟩
   ·simp only[List.length_append,List.length_take,List.length_drop,Array.length_toList];rw[hlen];omega
   ·simp only[List.size_toArray,List.length_append,List.length_take,List.length_drop,Array.length_toList];omega
   ·simp only[];rw[hlen];exact htk'
   ·rw[hl'];exact setL_rel (i:=i) hr hv (by omega)
inductive Rowed(e:TypeId)(sz:Nat)(l:List (List AV))(σ:List Ent):AV→List Ent→Prop
 |mk (v:Value):Rowed e sz l σ (.slv v) (.row v e sz l::σ)
theorem alloc_row{X:Fx}{M:Mem}{w:World}(hg:Good X M σ w)(c:Array Value)(e:TypeId)(sz:Nat){l:List (List AV)}{cap:Nat}(hcap:l.length≤cap)(hm:cap≤maxLen)(hc:c.size=cap*sz)(hs: ∀x∈l,x.length=sz)(h:VRels M l.flatten (c.toList.take (l.length*sz))):
  Good X M (.row (.slice (some ⟨w.heap.size,0,none⟩) l.length cap) e sz l::σ) {w with heap:=w.heap.push (.cells c e)}:=by
 refine hg.alloc (.cells c e) _ rfl ⟨_,⟨?_,.inr ⟨w.heap.size,cap,c,rfl,Nat.zero_le _,World.alloc_heap_new w (.cells c e),hcap,hm,hc,rfl⟩⟩,h,hs⟩
 have e1:c.toList.length=cap*sz:=by simpa using hc
 rw[List.length_take,e1]
 exact Nat.min_eq_left (Nat.mul_le_mul_right _ hcap)
def fillA(place:Nat→Option (Nat×Nat))(l:List AV):List (Nat×AV)→Option (List AV)
 |[]=>some l
 |(i,v)::r=>match place i with
  |none=>none
  |some (off,n)=>if v.cells.length≠n∨l.length<off+v.cells.length∨isOne v=false then none else fillA place (setL l off v.cells) r
def setV:List Value→Nat→List Value→List Value
 |l,_,[]=>l
 |l,i,x::r=>setV (l.set i x) (i+1) r
theorem setV_rel{M:Mem}: ∀{r:List AV} {vs:List Value} {l:List AV} {c:List Value} {i:Nat},VRels M l c→VRels M r vs→VRels M (setL l i r) (setV c i vs)
 |[],vs,l,c,i,h,h2=>by simp only[VRels]at h2;subst h2;exact h
 |x::r,vs,l,c,i,h,h2=>by
  simp only[VRels]at h2
  obtain⟨v,vs',rfl,k1,k2⟩:=h2
  exact setV_rel (l:=l.set i x) (c:=c.set i v) (i:=i+1) (h.set i k1) k2
theorem foldl_set(off:Nat): ∀(vs:List Value) (k:Nat) (acc:Array Value),((vs.zipIdx k).foldl (fun cs (p:Value×Nat)=>cs.setIfInBounds (off+p.2) p.1) acc).toList=setV acc.toList (off+k) vs
 |[],k,acc=>rfl
 |v::vs,k,acc=>by
  simp only[List.zipIdx_cons,List.foldl_cons]
  rw[foldl_set off vs (k+1),Array.toList_setIfInBounds]
  rfl
theorem fill_rel{M:Mem}(place:Nat→Option (Nat×Nat)): ∀(parts:List (Nat×AV)) (ps:List (Nat×Value)) (l:List AV) (c:Array Value) (l':List AV),VRels M l c.toList→(parts.map (·.1)=ps.map (·.1))→VRels M (parts.map (·.2)) (ps.map (·.2))→fillA place l parts=some l'→
  ∃c',Instr.fill place c ps=some c'∧VRels M l' c'.toList
 |[],[],l,c,l',h,_,_,hf=>by simp only[fillA,Option.some.injEq]at hf;subst hf;exact⟨c,rfl,h⟩
 |[],p::ps,_,_,_,_,he,_,_=>by simp at he
 |p::parts,[],_,_,_,_,he,_,_=>by simp at he
 |(i,v)::parts,(j,u)::ps,l,c,l',h,he,hv,hf=>by
  simp only[List.map_cons,List.cons.injEq]at he
  obtain⟨rfl,he⟩:=he
  simp only[List.map_cons,VRels]at hv
  obtain⟨u',r,e',k1,k2⟩:=hv
  cases e'
  simp only[fillA]at hf
  cases hp:place i with
  |none=>rw[hp]at hf;cases hf
  |some q=>
   obtain⟨off,n⟩:=q
   rw[hp]at hf
   simp only at hf
   split at hf
   ·cases hf
   ·rename_i hn
    have h1:v.cells.length=n:=Classical.byContradiction fun h=>hn (.inl h)
    have h2:off+v.cells.length≤l.length:=Nat.le_of_not_lt fun h=>hn (.inr (.inl h))
    have h3:isOne v=true:=by cases hv:isOne v with|true=>rfl|false=>exact absurd (.inr (.inr hv)) hn
    have hc:=k1.cells (isOne_spec h3)
    have e1:=hc.length
    have e2:=h.length
    simp only[Array.length_toList]at e1 e2
    have hfold:=foldl_set off u.cells.toList 0 c
    have hrel:=setV_rel (i:=off) h hc
    obtain⟨c',hc',hr'⟩:=fill_rel place parts ps _ (setV c.toList off u.cells.toList).toArray l' (by simpa using hrel) he k2 hf
    refine⟨c',?_,hr'⟩
    simp only[Instr.fill,hp]
    rw[if_neg (by simp;omega),←hc']
    congr 1
    apply Array.ext'
    simp only[Nat.add_zero]at hfold
    rw[←hfold,←Array.foldl_toList,Array.toList_zipIdx]
def partsA(env:Env):List (Nat×Operand)→Option (List (Nat×AV))
 |[]=>some []
 |(i,x)::r=>match xP env x,partsA env r with
  |some v,some l=>some ((i,v)::l)
  |_,_=>none
theorem partsA_rel{M:Mem}{a:Act}{env:Env}: ∀{ps:List (Nat×Operand)} {l:List (Nat×AV)},(∀x∈ps.map (·.2),∀v,xP env x=some v→VRel M v (a.eval x))→partsA env ps=some l→
  l.map (·.1)=(ps.map fun p=>(p.1,a.eval p.2)).map (·.1)∧VRels M (l.map (·.2)) ((ps.map fun p=>(p.1,a.eval p.2)).map (·.2))
 |[],l,_,h=>by simp only[partsA,Option.some.injEq]at h;subst h;exact⟨rfl,rfl⟩
 |(i,x)::ps,l,hx,h=>by
  simp only[partsA]at h
  split at h
  ·rename_i v l' h1 h2
   cases h
   obtain⟨k1,k2⟩:=partsA_rel (fun y hy=>hx y (by simp only[List.map_cons,List.mem_cons];exact .inr hy)) h2
   refine⟨by simp only[List.map_cons,k1],?_⟩
   simp only[List.map_cons,VRels]
   exact⟨_,_,rfl,hx x (by simp) v h1,k2⟩
  ·cases h
def plL(P:Program):List Field→Option (List (Nat×Nat))
 |[]=>some []
 |f::fs=>match P.info? f.type,plL P fs with
  |some i,some l=>some ((f.offset,i.size)::l)
  |_,_=>none
def placesOf(P:Program)(t:TypeId):Option (List (Nat×Nat)):=match P.underlying t with
 |some (.struct fs)=>plL P fs.toList
 |_=>none
theorem plL_eq: ∀{fs:List Field} {l:List (Nat×Nat)},plL P fs=some l→fs.mapM (fun f=>(P.info? f.type).map fun i=>(f.offset,i.size))=some l
 |[],l,h=>by simp only[plL,Option.some.injEq]at h;subst h;rfl
 |f::fs,l,h=>by
  unfold plL at h
  split at h
  ·rename_i i l' hi hl
   simp only[Option.some.injEq]at h
   subst h
   rw[List.mapM_cons,hi,plL_eq hl];rfl
  ·cases h
theorem mapM_places{fs:List Field}{l:List (Nat×Nat)}(w:World)(h:fs.mapM (fun f=>(P.info? f.type).map fun i=>(f.offset,i.size))=some l):(fs.mapM (m:=Sem) fun f=>do pure (f.offset,←sizeOf f.type)).run P w=.ok l w:=by
 induction fs generalizing l with
 |nil=>simp at h;subst h;rfl
 |cons f fs ih=>
  rw[List.mapM_cons]at h ⊢
  cases hi:P.info? f.type with
  |none=>rw[hi]at h;cases h
  |some i=>
   rw[hi]at h
   simp only[Option.map_some,Option.bind_eq_bind,Option.bind_some]at h
   cases hl:fs.mapM (fun f=>(P.info? f.type).map fun i=>(f.offset,i.size)) with
   |none=>rw[hl]at h;cases h
   |some l'=>
    rw[hl]at h
    cases h
    have e:(sizeOf f.type).run P w=.ok i.size w:=by simp[sizeOf,typeInfo,hi,Sem.run_bind]
    simp only[Sem.run_bind,e,Result.andThen_ok,Sem.run_pure,ih hl]
theorem g_build{t:TypeId}{parts:Array (Nat×Operand)}{pl:List (Nat×Nat)}{z L:List AV}{l:List (Nat×AV)}(hp:placesOf P t=some pl)(hz:zeroA P t=some z)(hl:partsA env parts.toList=some l)(hf:fillA (pl[·]?) z l=some L):
  GOp P ro ⟨dst,.build t parts,ty,pos,after,guard⟩ env σ (Is (.agg L) σ):=
 zA _ (by intro c h;cases h) fun X M a w hg ho=>by
  obtain⟨i,zv,hi,hzv,rfl⟩:=pC hz
  obtain⟨k1,k2⟩:=partsA_rel (a:=a) (M:=M) (fun x hx v hv=>ho x (by simpa [Op.operands]using hx) v hv) hl
  obtain⟨c',h1,h2⟩:=fill_rel (pl[·]?) l (parts.toList.map fun p=>(p.1,a.eval p.2)) _ zv.cells L (cAs_rel M _) k1 k2 hf
  refine⟨.agg c',⟨c',rfl,h2⟩,?_⟩
  unfold placesOf at hp
  cases hu:P.underlying t with
  |none=>rw[hu]at hp;cases hp
  |some d=>
   rw[hu]at hp
   cases d<;>first|cases hp|skip
   rename_i fs
   have hm:=plL_eq hp
   have hrun:=mapM_places (P:=P) w hm
   simp only[execOp,Instr.build,Sem.run_bind,zeroValue,typeInfo,run_program,Result.andThen_ok,hi,Sem.run_pure,hzv,run_underlying hu]
   rw[Array.mapM_eq_mapM_toList]
   simp only[Sem.run_bind,Functor.map,Sem.run_map,hrun]
   rw[show∀(m:Sem (List (Nat×Nat))),m.bind (Sem.pure∘List.toArray)=m>>=fun l=>pure l.toArray from fun _=>rfl]
   simp only[Sem.run_bind,hrun,Result.andThen_ok,Sem.run_pure]
   simp[h1]
end
section
variable {P:Program} {ro:Option Nat} {env:Env} {σ σ':List Ent} {o:Oper} {dst:Option Tmp} {ty:TypeId} {pos:String} {after:Array Edge} {guard:Option (Nat×Bool)}
def appOf(P:Program)(t:TypeId):Option (TypeId×Nat×Nat):=match P.underlying t with
 |some (.slice e)=>match P.info? e with
  |some i=>match i.zero with
   |some z=>if z.cells.size=i.size∧0<i.size∧0<i.bytes then some (e,i.size,i.bytes)else none
   |none=>none
  |none=>none
 |_=>none
theorem qP{t e:TypeId}{sz bytes:Nat}(h:appOf P t=some (e,sz,bytes)):P.underlying t=some (.slice e)∧ ∃i z,P.info? e=some i∧i.zero=some z∧i.size=sz∧i.bytes=bytes∧z.cells.size=sz∧0<sz∧0<bytes:=by
 unfold appOf at h
 split at h
 ·rename_i e' he
  split at h
  ·rename_i i hi
   split at h
   ·rename_i z hz
    split at h
    ·rename_i hc
     cases h
     exact⟨he,i,z,hi,hz,rfl,rfl,hc.1,hc.2⟩
    ·cases h
   ·cases h
  ·cases h
 ·cases h
def pX:Nat→Nat→List AV→List (List AV)
 |0,_,_=>[]
 |n+1,sz,L=>L.take sz::pX n sz (L.drop sz)
theorem chunkN_spec: ∀(n sz:Nat) (L:List AV),L.length=n*sz→(pX n sz L).flatten=L∧(pX n sz L).length=n∧ ∀x∈pX n sz L,x.length=sz
 |0,sz,L,h=>by simp at h;subst h;simp[pX]
 |n+1,sz,L,h=>by
  rw[Nat.add_mul,Nat.one_mul]at h
  obtain⟨h1,h2,h3⟩:=chunkN_spec n sz (L.drop sz) (by simp[h])
  refine⟨by simp[pX,h1],by simp[pX,h2],?_⟩
  intro x hx
  rcases List.mem_cons.1 hx with rfl|hx
  ·simp[h]
  ·exact h3 x hx
theorem fillA_length(place:Nat→Option (Nat×Nat)): ∀(parts:List (Nat×AV)) (l L:List AV),fillA place l parts=some L→L.length=l.length
 |[],l,L,h=>by simp only[fillA,Option.some.injEq]at h;rw[h]
 |(i,v)::r,l,L,h=>by
  simp only[fillA]at h
  split at h
  ·cases h
  ·split at h
   ·cases h
   ·rename_i off n _ hn
    have h2:off+v.cells.length≤l.length:=Nat.le_of_not_lt fun h=>hn (.inr (.inl h))
    have:=fillA_length place r _ _ h
    rw[this,setL_eq _ _ _ h2]
    simp;omega
def kR(z:List AV)(n:Nat):List AV:=(List.range n).map fun i=>(z[i%z.length]?).getD default
theorem zeros_rel(M:Mem){z:Value}{n:Nat}(hz:0<n→0<z.cells.size):VRels M (kR (z.cells.toList.map cA) n) ((Array.range n).map (z.cells[· %z.cells.size]!)).toList:=by
 refine VRels.of_get (by simp[kR]) (fun i x v h1 h2=>?_)
 simp only[kR,List.length_map,Array.length_toList,List.getElem?_map,List.getElem?_range]at h1
 simp only[Array.toList_map,Array.toList_range,List.getElem?_map]at h2
 by_cases hi:i<n
 ·rw[List.getElem?_range hi]at h1 h2
  simp only[Option.map_some,Option.some.injEq]at h1 h2
  have hlt:i%z.cells.size<z.cells.size:=Nat.mod_lt _ (hz (by omega))
  rw[←h1,←h2]
  simp[hlt,cA_rel]
 ·rw[List.getElem?_eq_none (by simpa using hi)]at h1;cases h1
theorem xT{t e:TypeId}{sz len bytes:Nat}{parts:Array (Nat×Operand)}{z L:List AV}{l:List (Nat×AV)}{R:List (List AV)}(ht:appOf P t=some (e,sz,bytes))(hz:zeroA P e=some z)(hlim:len*sz≤16777216)
  (hl:partsA env parts.toList=some l) (hf:fillA (fun i=>some (i*sz,sz)) (kR z (len*sz)) l=some L) (hR:pX len sz L=R):
  GOp P ro ⟨dst,.buildSlice t len parts,ty,pos,after,guard⟩ env σ (Rowed e sz R σ):=
 wJ (by intro c h;cases h) fun X M a w hg ho=>by
  subst hR
  obtain⟨hue,inf,z',hinf,hz',hsz,_,hzl,h0,_⟩:=qP ht
  obtain⟨i,zv,hi,hzv,rfl⟩:=pC hz
  rw[hinf]at hi;cases hi
  rw[hz']at hzv;cases hzv
  obtain⟨k1,k2⟩:=partsA_rel (a:=a) (M:=M) (fun x hx v hv=>ho x (by simpa [Op.operands]using hx) v hv) hl
  obtain⟨c',h1,h2⟩:=fill_rel (fun i=>some (i*sz,sz)) l (parts.toList.map fun p=>(p.1,a.eval p.2)) _ ((Array.range (len*sz)).map (z'.cells[· %z'.cells.size]!)) L (zeros_rel M (fun _=>by omega)) k1 k2 hf
  have hLl:=fillA_length _ _ _ _ hf
  simp only[kR,List.length_map,List.length_range]at hLl
  obtain⟨c1,c2,c3⟩:=chunkN_spec len sz L hLl
  have hc':c'.size=len*sz:=by have:=h2.length;simp only[Array.length_toList]at this;omega
  have hlm:len≤maxLen:=by
   have:=Nat.le_mul_of_pos_right len h0
   unfold maxLen;omega
  have hgd:=alloc_row hg c' e sz (l:=pX len sz L) (cap:=len) (by omega) hlm hc' c3 (by rw[c1,c2,List.take_of_length_le (by simp[hc'])];exact h2)
  rw[c2]at hgd
  refine⟨M,.slice (some ⟨w.heap.size,0,none⟩) len len,_,.slv _,_,Mem.le_refl M,hgd,by simp[VRel,Value.isSl],.mk _,.inl ?_⟩
  have hb:¬ 16777216<len*sz:=by omega
  by_cases hn:len*sz=0
  ·have e0:Array.map (fun x=>(#[]:Array Value)[x%(#[]:Array Value).size]!) (Array.range (len*sz))=Array.map (fun x=>z'.cells[x%z'.cells.size]!) (Array.range (len*sz)):=by
    have hr0:Array.range (len*sz)=#[]:=by rw[hn];simp
    rw[hr0];simp
   simp only[execOp,Instr.buildSlice,Sem.run_bind,run_underlying hue,Result.andThen_ok,sizeOf,typeInfo,run_program,hinf,Sem.run_pure,hsz]
   rw[if_neg hb]
   simp only[Sem.run_bind,Sem.run_pure,Result.andThen_ok,if_pos hn]
   rw[e0]
   have e1:(parts.map fun x=>(x.1,a.eval x.2)).toList=parts.toList.map fun p=>(p.1,a.eval p.2):=by simp
   simp only[e1,h1]
   simp[Sem.run_bind,newRow,newObj,Sem.run]
  ·simp only[execOp,Instr.buildSlice,Sem.run_bind,run_underlying hue,Result.andThen_ok,sizeOf,typeInfo,run_program,hinf,Sem.run_pure,hsz]
   rw[if_neg hb]
   simp only[Sem.run_bind,Sem.run_pure,Result.andThen_ok,if_neg hn,zeroValue,typeInfo,run_program,hinf,hz']
   have e1:(parts.map fun x=>(x.1,a.eval x.2)).toList=parts.toList.map fun p=>(p.1,a.eval p.2):=by simp
   simp only[e1,h1]
   simp[Sem.run_bind,newRow,newObj,Sem.run]
inductive Src(σ:List Ent):AV→Nat→List (List AV)→Prop
 |d {sz:Nat} {m:List (List AV)}:Src σ (.dl sz m) sz m
 |r {v:Value} {e:TypeId} {sz:Nat} {m:List (List AV)} (h:Ent.row v e sz m∈σ):Src σ (.slv v) sz m
 |n {sz:Nat}:Src σ (.slv nilS) sz []
theorem row_vals{M:Mem}{w:World}{b sz:Nat}: ∀{m:List (List AV)} {off:Nat},(∀b' i v,M.cell b' i=some v→w.cell? ⟨b',i,none⟩=some v)→(∀x∈m,x.length=sz)→RRel M b off m→ ∃vs:List Value,VRels M m.flatten vs∧vs.length=m.length*sz∧ ∀(j:Nat) (v:Value),vs[j]?=some v→w.cell? ⟨b,off+j,none⟩=some v
 |[],off,_,_,_=>⟨[],by simp[VRels],by simp,by simp⟩
 |x::m,off,hw,hs,h=>by
  simp only[RRel]at h
  obtain⟨vs,h1,h2,h3⟩:=row_vals (off:=off+x.length) hw (fun y hy=>hs y (by simp[hy])) h.2
  have cell: ∀{x:List AV} {i:Nat},CRel M b i x→ ∃us:List Value,VRels M x us∧us.length=x.length∧ ∀(j:Nat) (v:Value),us[j]?=some v→w.cell? ⟨b,i+j,none⟩=some v:=by
   intro x
   induction x with
   |nil=>intro i _;exact⟨[],by simp[VRels],rfl,by simp⟩
   |cons u x ih=>
    intro i hc
    simp only[CRel]at hc
    obtain⟨⟨v,k1,k2⟩,k3⟩:=hc
    obtain⟨us,e1,e2,e3⟩:=ih k3
    refine⟨v::us,by simp only[VRels];exact⟨v,us,rfl,k2,e1⟩,by simp[e2],fun j y hy=>?_⟩
    cases j with
    |zero=>simp at hy;subst hy;exact hw b i v k1
    |succ j=>simp at hy;have:=e3 j y hy;rwa [show i+1+j=i+(j+1) by omega]at this
  obtain⟨us,e1,e2,e3⟩:=cell h.1
  have hx:=hs x (by simp)
  refine⟨us++vs,by rw[List.flatten_cons];exact e1.append h1,by simp[e2,h2,hx,Nat.add_mul];omega,fun j v hv=>?_⟩
  by_cases hj:j<us.length
  ·rw[List.getElem?_append_left hj]at hv;exact e3 j v hv
  ·rw[List.getElem?_append_right (by omega)]at hv
   have:=h3 _ v hv
   rwa [←e2,show off+us.length+(j-us.length)=off+j by omega]at this
theorem src_vals{X:Fx}{M:Mem}{w:World}(hg:Good X M σ w){x:AV}{sz:Nat}{m:List (List AV)}(h:Src σ x sz m){u:Value}(hu:VRel M x u):
  ∃a cap,u=.slice a m.length cap∧ ∃vs:List Value,VRels M m.flatten vs∧vs.length=m.length*sz∧(∀x∈m,x.length=sz)∧(a=none→m=[])∧ ∀ad,a=some ad→ ∀(j:Nat) (v:Value),vs[j]?=some v→w.cell? (ad.add j)=some v:=by
 cases h with
 |d=>
  simp only[VRel]at hu
  obtain⟨a,cap,rfl,h1,h2,h3,h4⟩:=hu
  rcases h4 with rfl|⟨b,off,rfl,hr⟩
  ·exact⟨a,cap,rfl,[],by simp[VRels],by simp,by simp,fun _=>rfl,by simp⟩
  ·obtain⟨vs,e1,e2,e3⟩:=row_vals (w:=w) (fun _ _ _ hc=>cell_of_mem hg hc) h3 hr
   refine⟨_,cap,rfl,vs,e1,e2,h3,by simp,?_⟩
   rintro ad ⟨⟩ j v hv
   have:(⟨b,off,none⟩:Addr).add j=⟨b,off+j,none⟩:=by unfold Addr.add;split<;>simp_all
   rw[this];exact e3 j v hv
 |r hm=>
  simp only[VRel]at hu
  obtain⟨rfl,_⟩:=hu
  obtain⟨xs,hown,hr,hs⟩:=hg.ent _ hm
  have hl:=hown.1
  rcases hown.2 with⟨rfl,h0⟩|⟨g,cap,cur,rfl,hb,hgg,hnc,hcm,_⟩
  ·have:m=[]:=List.eq_nil_of_length_eq_zero h0
   subst this
   exact⟨none,0,rfl,xs,hr,hl,hs,fun _=>rfl,by simp⟩
  ·refine⟨_,cap,rfl,xs,hr,hl,hs,by simp,?_⟩
   rintro ad ⟨⟩ j v hv
   exact hown.cells (g:=g) rfl j v hv
 |n=>
  simp only[VRel]at hu
  obtain⟨rfl,_⟩:=hu
  exact⟨none,0,rfl,[],by simp[VRels],by simp,by simp,fun _=>rfl,by simp⟩
theorem run_append_none'{w:World}(t ty' e:TypeId)(i:TypeInfo)(size:Nat)(ht:P.underlying t=some (.slice e))(hi:P.info? e=some i){v:Value}{n cap:Nat}{xs:List Value}(hown:w.ownsRow 0 e size v n xs):
  (Builtin.append_ #[t,t] ty' #[v,.slice none 0 cap]).run P w=.ok v w:=by
 rcases hown.2 with⟨rfl,rfl⟩|⟨g,cap,cur,rfl,_,_,hnc,_⟩
 ·simp[Builtin.append_,run_underlying ht,sizeOf,typeInfo,hi,Builtin.lenOf,Builtin.firstCells]
 ·simp[Builtin.append_,run_underlying ht,sizeOf,typeInfo,hi,Builtin.lenOf,Builtin.firstCells,hnc,storeCells]
theorem append_core{X:Fx}{M:Mem}{w:World}{t e:TypeId}{sz bytes:Nat}{v:Value}{l m:List (List AV)}{xs:List Value}(ht:appOf P t=some (e,sz,bytes))(hg:Good X M σ w)(hown:w.ownsRow 0 e sz v l.length xs)(hr:VRels M l.flatten xs)(hs: ∀x∈l,x.length=sz)
  {x:AV} {u:Value} (hsrc:Src σ x sz m) (hu:VRel M x u) (hone: ∀y∈m,y.all AV.one=true) (hb:(l.length+m.length)*bytes≤140737488355328) (ty':TypeId):
  ∃v' w',(Builtin.append_ #[t,t] ty' #[v,u]).run P w=.ok v' w'∧(Ent.row v' e sz (l++m)).at M w'∧w.grownBy w' v.ownBlock∧(v'.ownBlock=v.ownBlock∨ ∃b,v'.ownBlock=some b∧w.heap.size≤b):=by
 obtain⟨hue,i,z,hi,hz,hsz,hby,hzl,h0,hb0⟩:=qP ht
 obtain⟨a,cap,rfl,vs,hv1,hv2,hv3,hv4,hv5⟩:=src_vals hg hsrc hu
 have hone':m.flatten.all AV.one=true:=by
  rw[List.all_eq_true]
  intro y hy
  obtain⟨q,hq,hy⟩:=List.mem_flatten.1 hy
  exact List.all_eq_true.1 (hone q hq) y hy
 have h63:l.length+m.length≤maxLen:=by
  have:=Nat.le_mul_of_pos_right (l.length+m.length) hb0
  unfold maxLen;omega
 have hsz': ∀x∈l++m,x.length=sz:=fun x hx=>by rcases List.mem_append.1 hx with hx|hx;exact hs x hx;exact hv3 x hx
 cases a with
 |none=>
  have hm:=hv4 rfl
  subst hm
  refine⟨v,w,run_append_none' t ty' e i sz hue hi hown,⟨xs,by simpa using hown,by simpa using hr,by simpa using hs⟩,⟨rfl,rfl,rfl,Nat.le_refl _,fun _ _ _=>rfl⟩,.inl rfl⟩
 |some ad=>
  obtain⟨v',w',hrun,hown',hgr,_⟩:=run_append_own (P:=P) w 0 t ty' e i z sz bytes hue hi hz hsz hby hzl h0 v l.length xs hown ad m.length cap vs (by rw[hv2]) (hv5 ad rfl) (qW hv1 hone') h63 hb (Nat.zero_le _)
  refine⟨v',w',hrun,⟨xs++vs,by simpa using hown',by rw[List.flatten_append];exact hr.append hv1,hsz'⟩,hgr,?_⟩
  clear hown' hgr
  have h1':=qW hv1 hone'
  rcases hown.2 with⟨rfl,hn0⟩|⟨g2,cap2,cur2,rfl,hbg,hgg,hnc,hcm,hcs,htk⟩
  ·obtain⟨v2,w2,hrun2,hown2,_,_⟩:=run_append_own (P:=P) w w.heap.size t ty' e i z sz bytes hue hi hz hsz hby hzl h0 nilS 0 [] (World.ownsRow_nil w _ e sz) ad m.length cap vs (by rw[hv2]) (hv5 ad rfl) h1' (by omega) (by rw[Nat.zero_add];exact Nat.le_trans (Nat.mul_le_mul_right bytes (Nat.le_add_left _ l.length)) hb) (Nat.le_refl _)
   rw[hrun2]at hrun
   cases hrun
   rcases hown2.2 with⟨rfl,_⟩|⟨g,cap',cur,rfl,hge,_⟩
   ·exact .inl rfl
   ·exact .inr ⟨g,rfl,hge⟩
  ·by_cases hroom:l.length+m.length≤cap2
   ·have hfit:l.length*i.size+vs.length≤cur2.size:=by rw[hv2,hcs,hsz,←Nat.add_mul];exact Nat.mul_le_mul_right _ hroom
    have hr2:=run_append_room (P:=P) w t ty' e i hue hi g2 l.length cap2 cur2 hgg ad m.length cap vs (by rw[hv2,hsz]) (hv5 ad rfl) h1' hroom hfit
    rw[hr2]at hrun
    cases hrun
    exact .inl rfl
   ·have holds: ∀(j:Nat) (u:Value),xs[j]?=some u→w.cell? ((⟨g2,0,none⟩:Addr).add j)=some u:=hown.cells (g:=g2) rfl
    have hsm:l.length+m.length≤9223372036854775807:=by unfold maxLen at h63;omega
    have hr2:=run_append_grow (P:=P) w t ty' e i z hue hi hz ⟨g2,0,none⟩ l.length cap2 xs (by rw[hsz];exact hown.1) holds ad m.length cap vs (by rw[hv2,hsz]) (hv5 ad rfl) (by omega) (by omega) (growslice_fits (by omega) (by rw[hby];exact hb))
    rw[hr2]at hrun
    cases hrun
    exact .inr ⟨_,rfl,by simp⟩
theorem isSl_row{M:Mem}{w:World}{v:Value}{e:TypeId}{sz:Nat}{l:List (List AV)}(h:(Ent.row v e sz l).at M w):v.isSl=true:=by
 obtain⟨xs,hown,_⟩:=h
 rcases hown.2 with⟨rfl,_⟩|⟨g,cap,cur,rfl,_⟩<;>rfl
inductive Grew(F:Value→List Ent):AV→List Ent→Prop
 |mk (v:Value):Grew F (.slv v) (F v)
theorem g_append{t e:TypeId}{sz bytes:Nat}{s x:Operand}{v:Value}{xv:AV}{l m:List (List AV)}{F:Value→List Ent}(ht:appOf P t=some (e,sz,bytes))(hs:xP env s=some (.slv v))(hx:xP env x=some xv)(hu: ∀v',Upd σ (.row v e sz l) (.row v' e sz (l++m)) (F v'))
  (hsrc:Src σ xv sz m) (hone: ∀y∈m,y.all AV.one=true) (hb:(l.length+m.length)*bytes≤140737488355328):
  GOp P ro ⟨dst,.call {callee:=.builtin .append,args:=#[s,x],argTypes:=#[t,t]},ty,pos,after,guard⟩ env σ (Grew F):=
 wJ (by intro c h;cases h) fun X M a w hg ho=>by
  have h1:=ho s (by simp[Op.operands,Call.operands]) _ hs
  have h2:=ho x (by simp[Op.operands,Call.operands]) _ hx
  simp only[VRel]at h1
  obtain⟨h1,_⟩:=h1
  obtain⟨xs,hown,hr,hsl⟩:=hg.ent _ (hu v).mem
  obtain⟨v',w',hrun,hent,hgr,hblk⟩:=append_core (P:=P) ht hg hown hr hsl hsrc h2 hone hb ty
  refine⟨M,v',w',.slv v',F v',Mem.le_refl M,hg.upd (hu v') hgr.os hgr.tape hgr.output (fun k hk hne=>hgr.block k hk (fun e=>hne e.symm)) hent hblk,⟨rfl,isSl_row hent⟩,.mk v',.inl ?_⟩
  simp[execOp,resolve,invoke,builtin,Sem.run_bind,h1,hrun]
theorem g_appendNil{t e:TypeId}{sz bytes:Nat}{s x:Operand}{xv:AV}{m:List (List AV)}(ht:appOf P t=some (e,sz,bytes))(hs:xP env s=some (.slv nilS))(hx:xP env x=some xv)
  (hsrc:Src σ xv sz m) (hone: ∀y∈m,y.all AV.one=true) (hb:m.length*bytes≤140737488355328):
  GOp P ro ⟨dst,.call {callee:=.builtin .append,args:=#[s,x],argTypes:=#[t,t]},ty,pos,after,guard⟩ env σ (Rowed e sz m σ):=
 wJ (by intro c h;cases h) fun X M a w hg ho=>by
  have h1:=ho s (by simp[Op.operands,Call.operands]) _ hs
  have h2:=ho x (by simp[Op.operands,Call.operands]) _ hx
  simp only[VRel]at h1
  obtain⟨h1,_⟩:=h1
  have hown:=World.ownsRow_nil w 0 e sz
  obtain⟨v',w',hrun,hent,hgr,hblk⟩:=append_core (P:=P) (l:=[]) ht hg hown (by simp[VRels]) (by simp) hsrc h2 hone (by simpa using hb) ty
  have hn:Good X M (.row nilS e sz []::σ) w:=⟨hg.os,hg.tape,hg.output,hg.mem,hg.frm,hg.dis,fun e' he=>by
   rcases List.mem_cons.1 he with rfl|he
   ·exact⟨[],hown,by simp[VRels],by simp⟩
   ·exact hg.ent e' he,fun e' he b hb=>by
   rcases List.mem_cons.1 he with rfl|he
   ·cases hb
   ·exact hg.own e' he b hb,hg.nod⟩
  refine⟨M,v',w',.slv v',_,Mem.le_refl M,hn.upd (σ':=.row v' e sz ([]++m)::σ) .here hgr.os hgr.tape hgr.output (fun k hk hne=>hgr.block k hk (fun e=>hne e.symm)) hent hblk,⟨rfl,isSl_row hent⟩,.mk v',.inl ?_⟩
  simp[execOp,resolve,invoke,builtin,Sem.run_bind,h1,hrun]
end
end Go.Proofs.YtaoaafdommlhcaaGreat
